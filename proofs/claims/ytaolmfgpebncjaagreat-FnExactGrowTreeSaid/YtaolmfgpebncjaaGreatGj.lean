/- A small logic for code over pictures of values and boxes: part 10. -/
import Derived.Test.YtaolmfgpebncjaaGreatGi
import Derived.Laws.StructEq
set_option linter.unusedSimpArgs false
set_option linter.unusedVariables false
namespace Go.Av
section
variable {P : Program} {f : FuncId} {xs : List AV} {bx : List (Nat × Option Box)} {nx : Nat}
theorem CR.frame (ids:List Nat) {R:AV->List (Nat×Option Box)->Nat->Prop} (hC:CR P f xs (Y6 bx ids) nx R)
  (hids:∀ r bs' nx',R r bs' nx'->∀ id b,look bs' id = some b->id∈ids∨nx<=id):CallS P f bx nx xs (λ r b n=>∃ b0,R r b0 n/\b = b0++(ids.map λ i=>(i,none))++bx):=by
 refine ⟨hC.1,λ G φ w vs hrel0 hA=>?_⟩
 have hsub:∀ id b,box? (Y6 bx ids) id = some b->box? bx id = some b:=by
  intro id b h
  simp only [box?] at h ⊢
  cases hl:look (Y6 bx ids) id with
  | none=>rw [hl] at h;cases h
  | some o=>rw [hl] at h;rw [look_pick _ _ _ _ hl];exact h
 have hpick:∀ ids id b,look (Y6 bx ids) id = some b->id∈ids:=by
  intro ids
  induction ids with
  | nil=>intro id b h;simp [Y6,look] at h
  | cons k ids ih =>
    intro id b h
    simp only [Y6] at h
    split at h
    ·rw [look_cons] at h
     split at h
     ·rename_i e;simp [e]
     ·exact List.mem_cons_of_mem _ (ih id b h)
    ·exact List.mem_cons_of_mem _ (ih id b h)
 let G2:Gh:=⟨w,OK G bx φ w,λ b=>∃ id box L,box? (Y6 bx ids) id = some box/\φ id = some L/\L.virt = false/\L.own b,0,φ,nx⟩
 have hokB:∀ b o,okB bx φ b o->okB (Y6 bx ids) φ b o:=λ b o h id box L h1 h2=>h id box L (hsub id box h1) h2
 have hcell:∀ b o,OK G bx φ w b o->OK G2 (Y6 bx ids) φ w b o/\w.cell? ⟨b,o,none⟩ = w.cell? ⟨b,o,none⟩:=λ b o h=>⟨⟨h.1,hokB b o h.2.1,λ _=>.inl h⟩,rfl⟩
 have hrel2:Rel G2 (Y6 bx ids) nx φ w:=by
  constructor
  ·rfl
  ·rfl
  ·rfl
  ·exact Nat.le_refl _
  ·exact λ _ _ _=>rfl
  ·exact λ _ _ _=>rfl
  ·exact λ b o h=>⟨h.1,hokB b o h.2.1⟩
  ·intro id b hb
   obtain ⟨L,hL,hB,hm⟩:=hrel0.box id b (hsub id b hb)
   exact ⟨L,hL,hB.mono hcell (λ _ _ h=>h) (λ _ _ _=>rfl),λ hv k hk=>.inr ⟨id,b,L,hb,hL,hv,hk⟩⟩
  ·exact λ id id' b b' L L' h1 h2=>hrel0.apart id id' b b' L L' (hsub id b h1) (hsub id' b' h2)
  ·exact hrel0.dom
  ·exact λ _ _=>rfl
  ·exact Nat.le_refl _
 refine (hC.2 G2 φ w _ rfl rfl rfl hrel2 ⟨hA.1,λ i x v hx hv=>(hA.2 i x v hx hv).mono hcell (λ _ _ h=>h)⟩).mono ?_
 rintro e w' ⟨v,r,bs',nx',φ',rfl,hR,hrel',hrep⟩
 -- all that the caller knew of cells holds on
 have hloc:∀ id L,φ id = some L->φ' id = some L:=by
  intro id L h
  have:id < nx:=by
   rcases Nat.lt_or_ge id nx with k|k
   ·exact k
   ·rw [hrel0.dom id k] at h;cases h
  rw [hrel'.agree id this];exact h
 have hbx:∀ id b,box? (bs'++(ids.map λ i=>(i,none))++bx) id = some b->box? bs' id = some b∨(look bs' id = none/\id ∉ ids/\box? bx id = some b):=by
  intro id b h
  rw [List.append_assoc,box?_append] at h
  cases hl:look bs' id with
  | some o=>rw [hl] at h;left;simp only [box?,hl];exact h
  | none =>
    rw [hl] at h
    simp only at h
    rw [box?_append,look_kill] at h
    by_cases hi:id∈ids
    ·rw [if_pos hi] at h;cases h
    ·rw [if_neg hi] at h;exact .inr ⟨rfl,hi,h⟩
 -- a box of the rest lies apart from what was lent and what is new
 have hrest:∀ id b L,id ∉ ids->box? bx id = some b->φ id = some L->L.virt = false->∀ k,L.own k->¬ G2.wr k/\k < w.heap.size:=by
  intro id b L h1 h2 h3 h4 kb hkb
  obtain ⟨L',hL',hB,_⟩:=hrel0.box id b h2
  obtain rfl:L = L':=by rw [h3] at hL';exact Option.some.inj hL'
  refine ⟨?_,hB.lt h4 hkb⟩
  rintro ⟨id',b',L',g1,g2,g3,g4⟩
  have hin:id'∈ids:=by
   simp only [box?] at g1
   cases hl:look (Y6 bx ids) id' with
   | none=>rw [hl] at g1;cases g1
   | some o=>exact hpick ids id' o hl
  exact hrel0.apart id' id b' b L' L (hsub _ _ g1) h2 (λ e=>h1 (e ▸ hin)) g2 h3 g3 h4 kb g4 hkb
 have hlook:∀ id b,look bs' id = some b->id∈ids∨nx<=id:=hids r bs' nx' hR
 have hlookb:∀ id b,box? bs' id = some b->∃ o,look bs' id = some o:=by
  intro id b h
  simp only [box?] at h
  cases hl:look bs' id with
  | none=>rw [hl] at h;cases h
  | some o=>exact ⟨o,rfl⟩
 have hcell':∀ b o,OK G bx φ w b o->OK G (bs'++(ids.map λ i=>(i,none))++bx) φ' w' b o/\w'.cell? ⟨b,o,none⟩ = w.cell? ⟨b,o,none⟩:=by
  intro b o h
  refine ⟨⟨Nat.lt_of_lt_of_le h.1 hrel'.size,?_,h.2.2⟩,hrel'.kept b o h⟩
  intro id box L h1 h2 hv he
  rcases hbx id box h1 with h3|⟨h3,h4,h5⟩
  ·exact (hrel'.okk b o h).2 id box L h3 h2 hv he
  ·obtain ⟨L',hL',_⟩:=hrel0.box id box h5
   have:=hloc _ _ hL'
   rw [h2] at this
   obtain rfl:=Option.some.inj this
   exact h.2.1 id box L h5 hL' hv he
 have hcellR:∀ b o,OK G2 bs' φ' w' b o->OK G (bs'++(ids.map λ i=>(i,none))++bx) φ' w' b o/\w'.cell? ⟨b,o,none⟩ = w'.cell? ⟨b,o,none⟩:=by
  intro b o h
  refine ⟨⟨h.1,?_,λ hlt=>?_⟩,rfl⟩
  ·intro id box L h1 h2 hv he
   rcases hbx id box h1 with h3|⟨h3,h4,h5⟩
   ·exact h.2.1 id box L h3 h2 hv he
   ·obtain ⟨L',hL',_⟩:=hrel0.box id box h5
    have:=hloc _ _ hL'
    rw [h2] at this
    obtain rfl:=Option.some.inj this
    obtain ⟨g1,g2⟩:=hrest id box L h4 h5 hL' hv b he
    rcases h.2.2 g2 with k|k
    ·exact k.2.1 id box L h5 hL' hv he
    ·exact absurd k g1
  ·rcases h.2.2 (Nat.lt_of_lt_of_le hlt hrel0.size) with k|⟨id,box,L,k1,k2,k3,k4⟩
   ·exact k.2.2 hlt
   ·obtain ⟨L',hL',_,hm⟩:=hrel0.box id box (hsub _ _ k1)
    obtain rfl:L = L':=by rw [k2] at hL';exact Option.some.inj hL'
    rcases hm k3 _ k4 with k5|k5
    ·omega
    ·exact .inr k5
 have hfin:Rel G (bs'++(ids.map λ i=>(i,none))++bx) nx' φ' w':=by
  constructor
  ·exact hrel'.os.trans hrel0.os
  ·exact hrel'.tape.trans hrel0.tape
  ·exact hrel'.output.trans hrel0.output
  ·exact Nat.le_trans hrel0.size hrel'.size
  ·intro b hb hw
   have hlt:b < w.heap.size:=Nat.lt_of_lt_of_le hb hrel0.size
   refine (hrel'.frame b hlt ?_).trans (hrel0.frame b hb hw)
   rintro ⟨id,box,L,k1,k2,k3,k4⟩
   obtain ⟨L',hL',_,hm⟩:=hrel0.box id box (hsub _ _ k1)
   obtain rfl:L = L':=by rw [k2] at hL';exact Option.some.inj hL'
   rcases hm k3 _ k4 with k5|k5
   ·omega
   ·exact hw k5
  ·intro b o hk
   exact (hrel'.kept b o (hrel0.ok_of_ok0 hk)).trans (hrel0.kept b o hk)
  ·intro b o hk
   exact ⟨(hrel0.okk b o hk).1,(hcell' b o (hrel0.ok_of_ok0 hk)).1.2.1⟩
  ·intro id b hb
   rcases hbx id b hb with h3|⟨h3,h4,h5⟩
   ·obtain ⟨L,hL,hB,hm⟩:=hrel'.box id b h3
    refine ⟨L,hL,hB.mono hcellR (λ _ _ h=>h) (λ _ _ _=>rfl),λ hv kb hkb=>?_⟩
    rcases hm hv kb hkb with k|⟨id2,box2,L2,k1,k2,k3,k4⟩
    ·exact .inl (Nat.le_trans hrel0.size k)
    ·obtain ⟨L',hL',_,hm'⟩:=hrel0.box id2 box2 (hsub _ _ k1)
     obtain rfl:L2 = L':=by rw [k2] at hL';exact Option.some.inj hL'
     exact hm' k3 _ k4
   ·obtain ⟨L,hL,hB,hm⟩:=hrel0.box id b h5
    refine ⟨L,hloc _ _ hL,hB.mono hcell' hloc (λ hv kb hkb=>?_),hm⟩
    obtain ⟨g1,g2⟩:=hrest id b L h4 h5 hL hv kb hkb
    exact hrel'.frame kb g2 g1
  ·intro i i' c c' L1 L2 h1 h2 hne h3 h4 hv1 hv2 kb q1 q2
   rcases hbx i c h1 with k1|⟨k1,k2,k3⟩
   ·rcases hbx i' c' h2 with j1|⟨j1,j2,j3⟩
    ·exact hrel'.apart i i' c c' L1 L2 k1 j1 hne h3 h4 hv1 hv2 kb q1 q2
    ·obtain ⟨L,hL,_⟩:=hrel0.box i' c' j3
     have:=hloc _ _ hL
     rw [h4] at this
     obtain rfl:=Option.some.inj this
     obtain ⟨g1,g2⟩:=hrest i' c' L2 j2 j3 hL hv2 kb q2
     obtain ⟨L',hL',_,hm⟩:=hrel'.box i c k1
     obtain rfl:L1 = L':=by rw [h3] at hL';exact Option.some.inj hL'
     rcases hm hv1 kb q1 with q|q
     ·have q':w.heap.size<=kb:=q
      omega
     ·exact g1 q
   ·obtain ⟨L,hL,_⟩:=hrel0.box i c k3
    have:=hloc _ _ hL
    rw [h3] at this
    obtain rfl:=Option.some.inj this
    rcases hbx i' c' h2 with j1|⟨j1,j2,j3⟩
    ·obtain ⟨g1,g2⟩:=hrest i c L1 k2 k3 hL hv1 kb q1
     obtain ⟨L',hL',_,hm⟩:=hrel'.box i' c' j1
     obtain rfl:L2 = L':=by rw [h4] at hL';exact Option.some.inj hL'
     rcases hm hv2 kb q2 with q|q
     ·have q':w.heap.size<=kb:=q
      omega
     ·exact g1 q
    ·obtain ⟨L',hL',_⟩:=hrel0.box i' c' j3
     have:=hloc _ _ hL'
     rw [h4] at this
     obtain rfl:=Option.some.inj this
     exact hrel0.apart i i' c c' L1 L2 k3 j3 hne hL hL' hv1 hv2 kb q1 q2
  ·exact hrel'.dom
  ·intro id hid
   have:id < nx:=Nat.lt_of_lt_of_le hid hrel0.nxle
   rw [hrel'.agree id this]
   exact hrel0.agree id hid
  ·exact Nat.le_trans hrel0.nxle hrel'.nxle
 exact ⟨v,r,bs'++(ids.map λ i=>(i,none))++bx,nx',φ',rfl,⟨bs',hR,rfl⟩,⟨hfin,hcell',hloc⟩,hrep.mono hcellR (λ _ _ h=>h)⟩
end
section
variable {P : Program} {ty : TypeId → Option TI} {n : Nat} {l : List Oper} {K : St → Prop} {tp : TypeId} {pos : String} {aft : Array Edge} {gd : Option (Nat × Bool)} {env : List (Nat × AV)} {bx bx0 : List (Nat × Option Box)} {nx : Nat} {d : Tmp}
theorem L_callL (ids:List Nat) {f:FuncId} {args:List Operand} {ats:Array TypeId} {xs:List AV} {bs:List (Nat×Option Box)} {r0:AV} {b0:List (Nat×Option Box)} {n0:Nat} (hg:Gts env args xs) (hb:Y6 bx ids = bs) (hc:CR P f xs bs nx (Is r0 b0 n0))
  (hids:(b0.map (·.1)).all (λ i=>ids.contains i || decide (nx<=i)) = true) (hd:Je n (some d) = true)
  (hlt:(bx0.map (·.1)).all (λ i=>decide (i < nx)) = true) (hfree:ids.all (λ i=>(box? bx0 i).isNone) = true)
  (h:WL P n bx0 l ⟨(d,r0)::env,b0++(ids.map λ i=>(i,none))++bx,n0⟩ K) :
  WL P n bx0 (⟨some d,.call ⟨.value (.func f),args.toArray,ats⟩,tp,pos,aft,gd⟩::l) ⟨env,bx,nx⟩ K:=by
 subst hb
 have hids':∀ r bs' nx',Is r0 b0 n0 r bs' nx'->∀ id b,look bs' id = some b->id∈ids∨nx<=id:=by
  rintro r b n ⟨e1,e2,e3⟩ id b' hl
  subst e1 e2 e3
  have:=List.all_eq_true.1 hids id (look_mem hl)
  simpa using this
 have hC:=CR.frame ids hc hids'
 refine ⟨hd,λ hS=>⟨r0,b0++(ids.map λ i=>(i,none))++bx,n0,.inr ⟨f,xs,by simp [callOf,St.get,hg.map bx nx],?_⟩,?_,h⟩⟩
 ·refine ⟨hC.1,λ G φ w vs hrel hA=>?_⟩
  refine (hC.2 G φ w vs hrel hA).mono ?_
  rintro e w' ⟨v,r,bx',nx',φ',rfl,⟨b1,⟨e1,e2,e3⟩,e4⟩,hadv,hrep⟩
  subst e1 e2 e3 e4
  exact ⟨v,r,b1++(ids.map λ i=>(i,none))++bx,nx',φ',rfl,⟨rfl,rfl,rfl⟩,hadv,hrep⟩
 ·intro id B hB
  rw [List.append_assoc,box?_append]
  have hnot:look b0 id = none:=by
   cases hl:look b0 id with
   | none=>rfl
   | some o =>
     rcases hids' r0 b0 n0 ⟨rfl,rfl,rfl⟩ id o hl with h1|h1
     ·have:=List.all_eq_true.1 hfree id h1
      rw [hB] at this;cases this
     ·exfalso
      have h2:id∈bx0.map (·.1):=by
       simp only [box?] at hB
       cases hq:look bx0 id with
       | none=>rw [hq] at hB;cases hB
       | some o2=>exact look_mem hq
      have:=List.all_eq_true.1 hlt id h2
      simp at this;omega
  rw [hnot]
  simp only
  rw [box?_append,look_kill]
  have hni:¬ id∈ids:=λ h1=>by
   have:=List.all_eq_true.1 hfree id h1
   rw [hB] at this;cases this
  rw [if_neg hni]
  exact hS id B hB
end
section
variable {P : Program} {ty : TypeId → Option TI}
end
def RenEL (ρ:Nat->Nat):List AV->List AV->Prop
 | [],[]=>True
 | a::l,b::r=>RenL ρ a.cells b.cells/\RenEL ρ l r
 | _,_=>False
theorem Ud {ρ:Nat->Nat}:RenEL ρ [] []:=trivial
theorem Jz {ρ:Nat->Nat} {a b:AV} {l r:List AV} (h:RenL ρ a.cells b.cells) (k:RenEL ρ l r):RenEL ρ (a::l) (b::r):=⟨h,k⟩
theorem RenEL.get {ρ:Nat->Nat}:∀ {l r:List AV},RenEL ρ l r->r.length = l.length/\∀ (i:Nat) (x x':AV),l[i]? = some x->r[i]? = some x'->RenL ρ x.cells x'.cells
 | [],[],_=>⟨rfl,λ i x x' h=>by simp at h⟩
 | a::l,b::r,h=>by
   obtain ⟨h1,h2⟩:=RenEL.get h.2
   refine ⟨by simp [h1],λ i x x' e1 e2=>?_⟩
   cases i with
   | zero=>simp at e1 e2;subst e1;subst e2;exact h.1
   | succ i=>simp at e1 e2;exact h2 i x x' e1 e2
 | [],_::_,h=>h.elim
 | _::_,[],h=>h.elim
theorem Um {ρ:Nat->Nat} {i j:Nat} {E E':List AV} {st:Nat} {sl ro:Bool} {l r:List (Nat×Option Box)} (hj:j = ρ i) (h:RenEL ρ E E') (k:RenBs ρ l r) :
  RenBs ρ ((i,some ⟨E,st,sl,ro⟩)::l) ((j,some ⟨E',st,sl,ro⟩)::r):=renBs_box hj h.get.1 h.get.2 k
theorem Yg {ρ:Nat->Nat} {bx l:List (Nat×Option Box)} {id:Nat} {E E':List AV} {st:Nat} {sl ro:Bool} (h:box? bx (ρ id) = some ⟨E',st,sl,ro⟩) (hr:RenEL ρ E E') (k:PullB ρ bx l):PullB ρ bx ((id,some ⟨E,st,sl,ro⟩)::l) :=
 pullB_box h hr.get.1 hr.get.2 k
theorem lowX_cons {N:Nat} {x:AV} {l:List AV} (h:LowL N x.cells) (k:LowX N l):LowX N (x::l):=λ y hy z hz=>by
 rcases List.mem_cons.1 hy with rfl|hy
 ·exact h.mem z hz
 ·exact k y hy z hz
def Called (ids:List Nat) (x x':AV):Prop:=∀ w φ φ' ok v,(∀ k id,ids[k]? = some id->φ' k = φ id)->(Rep w φ' ok x v ↔ Rep w φ ok x' v)
theorem called_pure {ids:List Nat} {x:AV} (h:Pure x):Called ids x x:=λ w φ φ' ok v _ =>
 ⟨λ k=>(h w φ' ok v k).mono (λ _ _ h=>⟨h,rfl⟩) (λ id L e=>by cases e),λ k=>(h w φ ok v k).mono (λ _ _ h=>⟨h,rfl⟩) (λ id L e=>by cases e)⟩
theorem called_sl {ids:List Nat} {k id off len cap:Nat} (h:ids[k]? = some id):Called ids (.sl k off len cap) (.sl id off len cap):=λ w φ φ' ok v e =>
 ⟨λ q=>by cases q with|sl _ _ _ _ L a c h1 h2=>exact .sl _ _ _ _ L a c (by rw [<-e k id h];exact h1) h2,
  λ q=>by cases q with|sl _ _ _ _ L a c h1 h2=>exact .sl _ _ _ _ L a c (by rw [e k id h];exact h1) h2⟩
def CalledL (ids:List Nat):List AV->List AV->Prop
 | [],[]=>True
 | x::l,y::r=>Called ids x y/\CalledL ids l r
 | _,_=>False
theorem calledL_nil {ids:List Nat}:CalledL ids [] []:=trivial
theorem calledL_cons {ids:List Nat} {x y:AV} {l r:List AV} (h:Called ids x y) (k:CalledL ids l r):CalledL ids (x::l) (y::r):=⟨h,k⟩
theorem CalledL.get {ids:List Nat}:∀ {l r:List AV},CalledL ids l r->r.length = l.length/\∀ (i:Nat) (x y:AV),l[i]? = some x->r[i]? = some y->Called ids x y
 | [],[],_=>⟨rfl,λ i x x' h=>by simp at h⟩
 | a::l,b::r,h=>by
   obtain ⟨h1,h2⟩:=CalledL.get h.2
   refine ⟨by simp [h1],λ i x x' e1 e2=>?_⟩
   cases i with
   | zero=>simp at e1 e2;subst e1;subst e2;exact h.1
   | succ i=>simp at e1 e2;exact h2 i x x' e1 e2
 | [],_::_,h=>h.elim
 | _::_,[],h=>h.elim
theorem called_agg {ids:List Nat} {cs cs':List AV} (h:CalledL ids cs cs'):Called ids (.agg cs) (.agg cs'):=λ w φ φ' ok v e=>by
 obtain ⟨h1,h2⟩:=h.get
 constructor
 ·intro q
  cases q with|agg _ vs hl hr =>
  refine .agg _ vs (by omega) λ i x v hx hv=>?_
  have hi:i < cs.length:=by rw [<-h1];exact (List.getElem?_eq_some_iff.1 hx).1
  exact (h2 i cs[i] x (by simp) hx w φ φ' ok v e).1 (hr i _ v (by simp) hv)
 ·intro q
  cases q with|agg _ vs hl hr =>
  refine .agg _ vs (by omega) λ i x v hx hv=>?_
  have hi:i < cs'.length:=by rw [h1];exact (List.getElem?_eq_some_iff.1 hx).1
  exact (h2 i x cs'[i] hx (by simp) w φ φ' ok v e).2 (hr i _ v (by simp) hv)
theorem called_ls {ids:List Nat} {st:Nat} {n ex:Bool} {xs xs':List AV} (h:CalledL ids xs xs') (h1:∀ x∈xs,x.cells = [x]) (h2:∀ x∈xs',x.cells = [x]) (hk:∀ (i:Nat) (x y:AV),xs[i]? = some x->xs'[i]? = some y->y.cellOk = x.cellOk):Called ids (.ls st n ex xs) (.ls st n ex xs'):=λ w φ φ' ok v e=>by
 obtain ⟨g1,g2⟩:=h.get
 have key:∀ {α β:Nat->Option Loc} {as bs:List AV},bs.length = as.length->(∀ x∈as,x.cells = [x])->(∀ x∈bs,x.cells = [x])->(∀ (i:Nat) (x y:AV),as[i]? = some x->bs[i]? = some y->y.cellOk = x.cellOk) ->
   (∀ (i:Nat) (x y:AV) (u:Value),as[i]? = some x->bs[i]? = some y->Rep w α ok x u->Rep w β ok y u)->Rep w α ok (.ls st n ex as) v->Rep w β ok (.ls st n ex bs) v:=by
  intro α β as bs hlen a1 b1 hck hrep q
  cases q with|ls _ _ _ _ a c vs hl hn hc hr =>
  rw [<-hlen]
  refine .ls st n ex bs a c vs (by rw [hlen];exact hl) (λ i x hx=>?_) (λ b o ha i j hi hj=>hc b o ha i j (by omega) hj) (λ i x j y hx hy=>?_)
  ·have hi:i < as.length:=by rw [<-hlen];exact (List.getElem?_eq_some_iff.1 hx).1
   have h0:=hn i as[i] (by simp)
   rw [Qs,a1 _ (List.getElem_mem hi)] at h0
   rw [Qs,b1 x (List.mem_of_getElem? hx)]
   refine ⟨h0.1,λ y hy=>?_⟩
   obtain rfl:y = x:=by simpa using hy
   rw [hck i as[i] y (by simp) hx]
   exact h0.2 _ (by simp)
  ·have hi:i < as.length:=by rw [<-hlen];exact (List.getElem?_eq_some_iff.1 hx).1
   rw [b1 x (List.mem_of_getElem? hx)] at hy
   have hj:j = 0/\y = x:=by
    cases j with
    | zero=>simp at hy;exact ⟨rfl,hy.symm⟩
    | succ j=>simp at hy
   obtain ⟨rfl,rfl⟩:=hj
   exact hrep i as[i] y _ (by simp) hx (hr i as[i] 0 as[i] (by simp) (by rw [a1 _ (List.getElem_mem hi)];rfl))
 constructor
 ·exact key g1 h1 h2 hk (λ i x y u hx hy q=>(g2 i x y hx hy w φ φ' ok u e).1 q)
 ·exact key g1.symm h2 h1 (λ i x y hx hy=>(hk i y x hy hx).symm) (λ i x y u hx hy q=>(g2 i y x hy hx w φ φ' ok u e).2 q)
section
variable {P : Program} {ty : TypeId → Option TI} {f : FuncId} {args args' : List AV} {r r' : AV}
theorem CR.quiet (ids:List Nat) {m:Nat} (hm:m = ids.length) (hc:CR P f args [] m (λ r0 _ _=>r0 = r)) (hA:CalledL ids args args') (hr:Called ids r r') (bx:List (Nat×Option Box)):CallV P f bx args' (· = r'):=by
 subst hm
 refine ⟨hc.1,λ G nx φ w vs hrel hR=>?_⟩
 obtain ⟨g1,g2⟩:=hA.get
 let φ2:Nat->Option Loc:=λ k=>(ids[k]?).bind φ
 let G2:Gh:=⟨w,OK G bx φ w,λ _=>False,0,φ2,ids.length⟩
 have hrel2:Rel G2 [] ids.length φ2 w :=
  ⟨rfl,rfl,rfl,Nat.le_refl _,λ _ _ _=>rfl,λ _ _ _=>rfl,λ b o k=>⟨k.1,λ id box L hb=>(by cases hb)⟩,λ id b hb=>(by cases hb),λ id id' b b' L L' hb=>(by cases hb),λ id h=>by
   show (ids[id]?).bind φ = none
   rw [List.getElem?_eq_none h];rfl,λ _ _=>rfl,Nat.le_refl _⟩
 have h2:∀ k id,ids[k]? = some id->φ2 k = φ id:=λ k id h=>by show (ids[k]?).bind φ = φ id;rw [h];rfl
 have hA2:RepAll w φ2 (OK G2 [] φ2 w) args vs.toList:=by
  refine ⟨by rw [hR.1,g1],λ i x v hx hv=>?_⟩
  have hi:i < args'.length:=by rw [g1];exact (List.getElem?_eq_some_iff.1 hx).1
  exact ((g2 i x args'[i] hx (by simp) w φ φ2 _ v h2).2 (hR.2 i _ v (by simp) hv)).mono (λ b o k=>⟨⟨k.1,λ id box L hb=>(by cases hb),λ _=>.inl k⟩,rfl⟩) (λ id L k=>k)
 refine (hc.2 G2 φ2 w vs rfl rfl rfl hrel2 hA2).mono ?_
 rintro e w' ⟨v,r0,bs',nx',φ',rfl,e2,hrel',hrep⟩
 subst e2
 have hE:Ext w w':=⟨hrel'.os,hrel'.tape,hrel'.output,hrel'.size,λ b hb=>hrel'.frame b hb (λ k=>k)⟩
 refine ⟨v,r',rfl,rfl,hE,?_⟩
 have h1:Rep w' φ' (OK G bx φ w') r0 v:=hrep.mono (λ b o k=>⟨by
  rcases Nat.lt_or_ge b w.heap.size with h|h
  ·rcases k.2.2 h with q|q
   ·exact (OK.ext hE q).1
   ·exact q.elim
  ·exact hrel.ok_new h k.1,rfl⟩) (λ _ _ h=>h)
 refine (hr w' φ φ' _ v (λ k id h=>?_)).1 h1
 have hk:k < ids.length:=(List.getElem?_eq_some_iff.1 h).1
 rw [hrel'.agree k hk]
 exact h2 k id h
theorem CR.fresh {bx:List (Nat×Option Box)} {xs ys:List AV} {E:List AV} {len cap st:Nat} {sl:Bool} {n0:Nat->Nat} (hv:ViewL bx xs ys) (hc:∀ N,CR P f ys [] N (Is (.sl N 0 len cap) [(N,some ⟨E,st,sl,false⟩)] (n0 N))) (hl:len = E.length)
  (hE:∀ x∈E,∀ y∈x.cells,Flat y):CallV P f bx xs (· = .ls st true false E):=by
 refine ⟨(hc 0).1,λ G nx φ w vs hrel hA=>?_⟩
 have hS:=hrel.shared
 have hV:=hv.repAll hrel hA
 let G2:Gh:=⟨w,OK G (shareAll bx) φ w,λ _=>False,0,φ,nx⟩
 have hrel2:Rel G2 [] nx φ w :=
  ⟨rfl,rfl,rfl,Nat.le_refl _,λ _ _ _=>rfl,λ _ _ _=>rfl,λ b o k=>⟨k.1,λ id box L hb=>(by cases hb)⟩,λ id b hb=>(by cases hb),λ id id' b b' L L' hb=>(by cases hb),hrel.dom,λ _ _=>rfl,Nat.le_refl _⟩
 refine ((hc nx).2 G2 φ w vs rfl rfl rfl hrel2 ⟨hV.1,λ i y v hy hvv=>(hV.2 i y v hy hvv).mono (λ b o k=>⟨⟨k.1,λ id box L hb=>(by cases hb),λ _=>.inl k⟩,rfl⟩) (λ id L k=>(by cases k))⟩).mono ?_
 rintro e w' ⟨v,r',bs',nx',φ',rfl,⟨e1,e2,e3⟩,hrel',hrep⟩
 subst e1 e2 e3
 have hEx:Ext w w':=⟨hrel'.os,hrel'.tape,hrel'.output,hrel'.size,λ b hb=>hrel'.frame b hb (λ k=>k)⟩
 refine ⟨v,_,rfl,rfl,hEx,?_⟩
 obtain ⟨L,hL,hB,hm⟩:=hrel'.box nx ⟨E,st,sl,false⟩ (by simp [box?_cons])
 cases hrep with|sl _ _ _ _ L' a c hL' hs =>
 obtain rfl:L = L':=by rw [hL] at hL';exact Option.some.inj hL'
 obtain ⟨s1,s2,s3,s4,s5⟩:=hs
 have hst:st = L.st:=hB.st
 subst hl
 by_cases h0:c = 0
 ·have hE0:E = []:=List.length_eq_zero_iff.1 (by omega)
  subst hE0;subst h0
  exact Rep.mk_ls (xs:=[]) ⟨Nat.zero_le _,λ h=>(by cases h),λ _ h=>(by cases h),λ h=>(by cases h),λ h=>absurd h (by omega),s4⟩ (λ i x h=>(by simp at h)) (λ b o h i x j y hx=>(by simp at hx))
 ·obtain ⟨s6,ab,ao,s7,s8,s9,s10,s11⟩:=s5 h0
  subst s7
  refine Rep.mk_ls ⟨by omega,λ h=>(by cases h),λ _ h=>(by cases h),λ h=>(by cases h),λ _=>⟨_,_,rfl⟩,λ x hx=>(by cases hx;rfl)⟩ (λ i x hx=>by rw [hst];exact hB.len i x hx) ?_
  intro b o hbo i x j y hx hy
  simp only [Option.some.injEq,Addr.mk.injEq] at hbo
  obtain ⟨rfl,rfl,_⟩:=hbo
  obtain ⟨u,u1,u2⟩:=hB.cont s6 i x j y hx hy
  refine ⟨u,?_,?_,hE x (List.mem_of_getElem? hx) y (List.mem_of_getElem? hy) _ _ _ _ u2 _ _ _⟩
  ·have hps:=s10 i (by have:=(List.getElem?_eq_some_iff.1 hx).1;omega)
   rw [Nat.zero_add] at hps
   rw [hps] at u1
   rw [hst]
   exact u1
  ·refine hrel.ok_new ?_ (hB.lt s6 s8)
   rcases hm s6 _ s8 with q|q
   ·exact q
   ·exact q.elim
end
section
variable {P : Program} {ty : TypeId → Option TI} {n : Nat} {ops l : List Oper} {K : St → Prop} {tp : TypeId} {pos : String} {aft : Array Edge} {env : List (Nat × AV)} {bx : List (Nat × Option Box)} {nx : Nat} {d : Tmp} {f : FuncId} {args : List Operand} {ats : Array TypeId} {xs ys : List AV}
theorem S_callP {q:Bool} {r r':AV} {as:List AV} (ids:List Nat) {m:Nat} (hg:Gts env args xs) (hc:CR P f as [] m (λ r0 _ _=>r0 = r)) (hA:CalledL ids as xs) (hr:Called ids r r') (hm:m = ids.length) (hd:Je n (some d) = true)
  (h:WX q P ty n ops l ⟨(d,r')::env,bx,nx⟩ K) :
  WX q P ty n ops (⟨some d,.call ⟨.value (.func f),args.toArray,ats⟩,tp,pos,aft,none⟩::l) ⟨env,bx,nx⟩ K:=by
 have:callOf (St.get ⟨env,bx,nx⟩) (.call ⟨.value (.func f),args.toArray,ats⟩) = some (f,xs):=by
  simp [callOf,St.get,hg.map bx nx]
 refine S_QV hd ?_ h
 unfold QV
 rw [valStep_call]
 simp only [this]
 exact λ bx' _=>CR.quiet ids hm hc hA hr bx'
theorem S_callNew {q:Bool} {E:List AV} {len cap st:Nat} {sl:Bool} {n0:Nat->Nat} (hg:Gts env args xs) (hv:ViewL bx xs ys) (hc:∀ N,CR P f ys [] N (Is (.sl N 0 len cap) [(N,some ⟨E,st,sl,false⟩)] (n0 N))) (hl:Mlen (len = E.length))
  (hE:∀ x∈E,∀ y∈x.cells,Flat y) (hd:Je n (some d) = true) (h:WX q P ty n ops l ⟨(d,.ls st true false E)::env,bx,nx⟩ K) :
  WX q P ty n ops (⟨some d,.call ⟨.value (.func f),args.toArray,ats⟩,tp,pos,aft,none⟩::l) ⟨env,bx,nx⟩ K:=by
 have:callOf (St.get ⟨env,bx,nx⟩) (.call ⟨.value (.func f),args.toArray,ats⟩) = some (f,xs):=by
  simp [callOf,St.get,hg.map bx nx]
 refine S_QV hd ?_ h
 unfold QV
 rw [valStep_call]
 simp only [this]
 exact λ bx' hk=>CR.fresh (hv.stay hk) hc hl.out hE
end
section
variable {ty : TypeId → Option TI} {rs : List ResultVar} {s : St} {xs : List AV} {r : AV}
theorem E_Par (h1:ResL ty s rs xs) (he:oneOrTup xs = r):retR ty rs (λ r' _ _=>r' = r) .ret s:=by
 obtain ⟨p,h2,h3⟩:=h1.list
 exact E_R h2 h3 he
end
section
variable {P : Program} {ty : TypeId → Option TI} {n : Nat} {l : List Oper} {K : St → Prop} {bx0 : List (Nat × Option Box)}
end
section
variable {P : Program} {f : FuncId} {xs : List AV} {bs b0 b1 : List (Nat × Option Box)} {nx : Nat}
theorem CR.freeze {id len cap st n0:Nat} {E:List AV} {sl ro:Bool} (h:CR P f xs bs nx (Is (.sl id 0 len cap) b0 n0)) (hb:box? b0 id = some ⟨E,st,sl,ro⟩) (hl:len = E.length) (hp:Uf E)
  (hrest:∀ i b,box? b1 i = some b->i≠id/\box? b0 i = some b):CR P f xs bs nx (Is (.ls st true false E) b1 n0):=by
 refine ⟨h.1,λ G φ w vs e1 e2 e3 hrel hA=>(h.2 G φ w vs e1 e2 e3 hrel hA).mono ?_⟩
 rintro e w' ⟨v,r,bs',nx',φ',rfl,⟨q1,q2,q3⟩,hrel',hrep⟩
 subst q1 q2 q3
 subst hl
 have hW:=hrel'.weaken (bx':=(id,some ⟨E,st,sl,true⟩)::bs') (Nat.le_refl _) (λ i b' hi=>by
  rw [box?_cons] at hi
  by_cases e1:id = i
  ·rw [if_pos e1] at hi
   obtain rfl:=Option.some.inj hi
   exact ⟨⟨E,st,sl,ro⟩,by rw [<-e1];exact hb,rfl,rfl,rfl,λ _=>rfl⟩
  ·rw [if_neg e1] at hi
   exact ⟨b',hi,rfl,rfl,rfl,λ h=>h⟩)
 have hE:(E.drop 0).take E.length = E:=by simp
 obtain ⟨y,hy,hr⟩:=vw_sl (bx:=(id,some ⟨E,st,sl,true⟩)::bs') (id:=id) (off:=0) (len:=E.length) (cap:=cap) (b:=⟨E,st,sl,true⟩) (by rw [box?_cons,if_pos rfl]) rfl (by simp) (by
  rw [hE]
  exact λ x hx y hy=>(hp x hx).1.mem y hy) G nx' φ' w' v hW.rel (hW.rep hrep)
 rw [hE] at hy
 subst hy
 have hV:=hW.rel.weaken (bx':=b1) (Nat.le_refl _) (λ i b' hi=>by
  obtain ⟨g1,g2⟩:=hrest i b' hi
  exact ⟨b',by rw [box?_cons,if_neg (λ h=>g1 h.symm)];exact g2,rfl,rfl,rfl,λ h=>h⟩)
 exact ⟨v,_,b1,nx',φ',rfl,⟨rfl,rfl,rfl⟩,hV.rel,hr.mono hV.cell (λ _ _ e=>by cases e)⟩
end
end Go.Av
namespace Go.Av
inductive PK where
 | int (k:IntKind)|str|bool
 deriving DecidableEq
def AV.pk:AV->Option PK
 | .int k _=>some (.int k)
 | .str _=>some .str
 | .bool _=>some .bool
 | _=>none
def eqTabF (P:Program):Nat->List Field->List PK->Bool
 | _,[],[]=>true
 | i,f::fs,k::ks=>(f.name != "_") && (f.offset == i) && (match P.underlying f.type,k with|some (.int _),.int _=>true|some .string,.str=>true|some .bool,.bool=>true|_,_=>false) && eqTabF P (i + 1) fs ks
 | _,_,_=>false
def eqTab (P:Program) (t:TypeId) (ks:List PK):Bool :=
 !P.eqGuardType P.depth t && !P.stoodInHeld t && (match P.underlying t with|some (.struct fs)=>eqTabF P 0 fs.toList ks|_=>false)
def cellsEq:List AV->List AV->Bool
 | .int _ a::xs,.int _ b::ys=>decide (a = b) && cellsEq xs ys
 | .str a::xs,.str b::ys=>(a.toList == b.toList) && cellsEq xs ys
 | .bool a::xs,.bool b::ys=>(a == b) && cellsEq xs ys
 | [],[]=>true
 | _,_=>false
section
variable {P : Program} {w : World} {φ : Nat → Option Loc} {ok : Nat → Nat → Prop}
end
section
variable {P : Program} {ty : TypeId → Option TI} {n : Nat} {q : Bool} {ops l : List Oper} {env : List (Nat × AV)} {bx : List (Nat × Option Box)} {nx : Nat} {K : St → Prop}
 {d:Nat} {tp:TypeId} {pos:String} {aft:Array Edge} {x y:Operand} {t yt:TypeId} {cs ds:List AV}
end
end Go.Av
