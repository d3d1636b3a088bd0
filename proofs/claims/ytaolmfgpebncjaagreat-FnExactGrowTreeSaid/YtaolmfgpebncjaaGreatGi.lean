/- A small logic for code over pictures of values and boxes: part 9. -/
import Derived.Test.YtaolmfgpebncjaaGreatGh
set_option linter.unusedSimpArgs false
set_option linter.unusedVariables false
namespace Go.Av
section
variable {P : Program} {ty : TypeId → Option TI} {n : Nat} {l : List Oper} {K : St → Prop} {tp : TypeId} {pos : String} {aft : Array Edge} {gd : Option (Nat × Bool)} {env : List (Nat × AV)} {bx bx0 : List (Nat × Option Box)} {nx : Nat} {d : Tmp}
 {t xt:TypeId} {x y:Operand}
theorem GtsI.get {env:List (Nat×AV)}:∀ {k:Nat} {l:List (Nat×Operand)} {r:List AV},GtsI env k l r->r.length = l.length/\∀ (j:Nat) (p:Nat×Operand) (q:Nat×AV),l[j]? = some p->(parts k r)[j]? = some q->q.1 = p.1/\Gt env p.2 q.2
 | _,[],[],_=>⟨rfl,λ j p q h=>by simp at h⟩
 | k,(i,x)::l,v::r,h=>by
   obtain ⟨rfl,h1,h2⟩:=h
   obtain ⟨g1,g2⟩:=GtsI.get h2
   refine ⟨by simp [g1],λ j p q hp hq=>?_⟩
   cases j with
   | zero=>simp [parts] at hp hq;subst hp;subst hq;exact ⟨rfl,h1⟩
   | succ j=>exact g2 j p q (by simpa using hp) (by simpa [parts] using hq)
 | _,[],_::_,h=>h.elim
 | _,_::_,[],h=>h.elim
theorem stay_app {bx0 bx:List (Nat×Option Box)} {nx:Nat} (hlt:(bx0.map (·.1)).all (λ i=>decide (i < nx)) = true):∀ {b0:List (Nat×Option Box)},OwnB nx b0->Stay bx0 bx->Stay bx0 (b0++bx):=by
 intro b0 hb h id B hB
 have hid:id < nx:=by
  have hm:id∈bx0.map (·.1):=by
   unfold box? at hB
   cases hl:look bx0 id with
   | none=>rw [hl] at hB;cases hB
   | some x=>exact look_mem hl
  simpa using List.all_eq_true.1 hlt id hm
 rw [box?_append]
 cases hl:look b0 id with
 | none=>exact h id B hB
 | some b=>have:=hb.1 id b hl;omega
theorem L_callI {f:FuncId} {args:List Operand} {ats:Array TypeId} {xs ys:List AV} {r0:AV} {b0:List (Nat×Option Box)} {n0:Nat} (hg:Gts env args xs) (hv:ViewL bx xs ys) (hc:CR P f ys [] nx (Is r0 b0 n0)) (ho:Own r0) (hb:OwnB nx b0) (hd:Je n (some d) = true)
  (hlt:(bx0.map (·.1)).all (λ i=>decide (i < nx)) = true)
  (h:WL P n bx0 l ⟨(d,r0)::env,b0++bx,n0⟩ K) :
  WL P n bx0 (⟨some d,.call ⟨.value (.func f),args.toArray,ats⟩,tp,pos,aft,gd⟩::l) ⟨env,bx,nx⟩ K:=by
 refine ⟨hd,λ hS=>⟨r0,b0++bx,n0,.inr ⟨f,xs,by simp [callOf,St.get,hg.map bx nx],?_⟩,stay_app hlt hb hS,h⟩⟩
 refine ⟨hc.1,λ G φ w vs hrel hA=>?_⟩
 refine ((hc.lend hv (λ r b n ⟨e1,e2,e3⟩=>by subst e1 e2 e3;exact ⟨ho,hb⟩)).2 G φ w vs hrel hA).mono ?_
 rintro e w' ⟨v,r,bx',nx',φ',rfl,⟨b1,⟨e1,e2,e3⟩,e4⟩,hadv,hrep⟩
 subst e1 e2 e3 e4
 exact ⟨v,r,b1++bx,nx',φ',rfl,⟨rfl,rfl,rfl⟩,hadv,hrep⟩
end
end Go.Av
namespace Go.Av
def bStr (w:List UInt8):ByteArray:=⟨w.toArray⟩
theorem strB_bStr (w:List UInt8):strB (bStr w) = w:=rfl
theorem bytesOf_bA (w:List UInt8):bytesOf (bA w) = bStr w:=by
 unfold bytesOf bStr bA
 rw [List.map_map]
 congr 2
 have:((λ x:AV=>UInt8.ofNat x.toI.toNat) ∘ λ b:UInt8=>AV.int .u8 (b.toNat:Int)) = id:=by
  funext b
  simp [AV.toI]
 rw [this,List.map_id]
theorem isByte_bA (w:List UInt8):∀ x∈bA w,IsByte x:=λ x hx=>by
 simp only [bA,List.mem_map] at hx
 obtain ⟨b,_,rfl⟩:=hx
 rfl
theorem str_eq (a b:ByteArray):(a.toList == b.toList) = decide (strB a = strB b):=by
 rw [ByteArray.toList_eq,ByteArray.toList_eq]
 unfold strB
 by_cases h:a.data.toList = b.data.toList
 ·rw [h,decide_eq_true rfl];exact beq_self_eq_true _
 ·rw [decide_eq_false h];exact beq_eq_false_iff_ne.2 h
section
variable {P : Program} {ty : TypeId → Option TI} {n : Nat} {ops l : List Oper} {K : St → Prop} {tp : TypeId} {pos : String} {aft : Array Edge} {env : List (Nat × AV)} {bx : List (Nat × Option Box)} {nx : Nat} {d : Tmp}
 {t:TypeId} {x y:Operand} {q:Bool}
theorem M_convBS {src:TypeId} {e:TypeId} {st:Nat} {nn ee:Bool} {w:List UInt8} (hs:(ty src).map TI.k = some (.slice e)) (ht:(ty t).map TI.k = some .str) (he:(ty e).map TI.k = some (.int .u8)) (hx:Gt env x (.ls st nn ee (bA w))) (hst:st = 1) (hd:Je n (some d) = true)
  (h:WX q P ty n ops l ⟨(d,.str (bStr w))::env,bx,nx⟩ K):WX q P ty n ops (⟨some d,.convert src t x,tp,pos,aft,none⟩::l) ⟨env,bx,nx⟩ K :=
 S_convBS hs ht he hx hst (isByte_bA w) (bytesOf_bA w) hd h
end
section
variable {P : Program} {f : FuncId} {xs : List AV}
theorem CR.byVal {st:Nat} {E:List AV} {len cap:Nat} {sl ro:Bool} {n0:Nat} (h:CR P f xs [] 0 (Is (.sl 0 0 len cap) [(0,some ⟨E,st,sl,ro⟩)] n0)) (hl:len = E.length) (hp:Uf E):CV P f xs (· = .ls st true false E) :=
 h.toCV λ r b n ⟨e1,e2,e3⟩=>by subst e1 e2;exact view_slA rfl hl hp
end
end Go.Av
namespace Go.Av
def Loose (c d:AV):Prop:=∀ w φ ok v,Rep w φ ok c v->Rep w φ ok d v
theorem Loose.refl (c:AV):Loose c c:=λ _ _ _ _ h=>h
theorem loose_ls (st:Nat) (n e:Bool) (xs:List AV):Loose (.ls st n e xs) (.ls st true false xs):=λ w φ ok v h=>by
 cases h with|ls _ _ _ _ a c vs hl hn hc hr=>exact .ls st true false xs a c vs hl.loose hn hc hr
def LooseE:List AV->List AV->Prop
 | [],[]=>True
 | x::l,y::r=>(y.cells.length = x.cells.length/\(∀ d∈y.cells,d.cellOk = true)/\∀ (j:Nat) (c d:AV),x.cells[j]? = some c->y.cells[j]? = some d->Loose c d)/\LooseE l r
 | _,_=>False
theorem LooseE.get:∀ {l r:List AV},LooseE l r->r.length = l.length/\∀ (i:Nat) (x y:AV),l[i]? = some x->r[i]? = some y->y.cells.length = x.cells.length/\(∀ d∈y.cells,d.cellOk = true)/\∀ (j:Nat) (c d:AV),x.cells[j]? = some c->y.cells[j]? = some d->Loose c d
 | [],[],_=>⟨rfl,λ i x y h=>by simp at h⟩
 | a::l,b::r,h=>by
   obtain ⟨h1,h2⟩:=LooseE.get h.2
   refine ⟨by simp [h1],λ i x y hx hy=>?_⟩
   cases i with
   | zero=>simp at hx hy;subst hx;subst hy;exact h.1
   | succ i=>exact h2 i x y (by simpa using hx) (by simpa using hy)
section
variable {G : Gh} {bx : List (Nat × Option Box)} {nx : Nat} {φ : Nat → Option Loc} {w : World}
end
end Go.Av
namespace Go.Av
section
variable {P : Program} {ty : TypeId → Option TI} {n : Nat} {ops l : List Oper} {K : St → Prop} {tp : TypeId} {pos : String} {aft : Array Edge} {env : List (Nat × AV)} {bx : List (Nat × Option Box)} {nx : Nat} {d : Tmp}
 {t:TypeId} {x:Operand} {q:Bool}
end
end Go.Av
namespace Go.Av
theorem CV.args {P:Program} {f:FuncId} {xs ys:List AV} {R:AV->Prop} (h:CV P f ys R) (hl:ys.length = xs.length) (k:∀ (i:Nat) (x y:AV),xs[i]? = some x->ys[i]? = some y->Loose x y):CV P f xs R :=
 ⟨h.1,λ ok0 w vs hok hA=>h.2 ok0 w vs hok ⟨by rw [hA.1,hl],λ i y v hy hv=>by
  have hi:i < xs.length:=by rw [<-hl];exact (List.getElem?_eq_some_iff.1 hy).1
  exact k i xs[i] y (by simp) hy _ _ _ _ (hA.2 i xs[i] v (by simp) hv)⟩⟩
theorem loose_nil (st st':Nat) (n e:Bool):Loose (.ls st n e []) (.ls st' true false []):=λ w φ ok v h=>by
 cases h with|ls _ _ _ _ a c vs hl hn hc hr=>exact .ls st' true false [] a c vs hl.loose (λ i x h=>by simp at h) (λ b o _ i j hi=>by simp at hi) (λ i x j y h=>by simp at h)
end Go.Av
namespace Go.Av
instance (cs:List AV) [h:Qe cs]:Qe (AV.agg cs).cells:=h
instance (cs:List AV) [h:CellsC cs]:CellsC (AV.agg cs).cells:=h
section
variable {P : Program} {ty : TypeId → Option TI} {n : Nat} {ops l : List Oper} {K : St → Prop} {tp : TypeId} {pos : String} {aft : Array Edge} {env : List (Nat × AV)} {bx : List (Nat × Option Box)} {nx : Nat}
 {t:TypeId} {x y:Operand}
theorem S_storeG {ti:TI} {id j:Nat} {cs ds cs':List AV} {sz:Nat} {sl ro:Bool} (ht:ty t = some ti) (hx:Gt env x (.ptr id 0 j)) (hB:box? bx id = some ⟨[.agg cs],sz,sl,ro⟩) (hs:(ti.size == sz) = false) (hro:ro = false) (hy:Gt env y (.agg ds))
  (hk:Qs ti.size (.agg ds)) (hj:j + ti.size<=cs.length) (hset:splice cs j ds = cs') (h:WX false P ty n ops l ⟨env,(id,some ⟨[.agg cs'],sz,sl,ro⟩)::bx,nx⟩ K):WX false P ty n ops (⟨none,.store t x y,tp,pos,aft,none⟩::l) ⟨env,bx,nx⟩ K:=by
 subst hset
 have hne:¬ (ti.size = sz):=by simpa using hs
 refine S_memN (r:=.undef) (nx':=nx) (p:=0 < [AV.agg cs].length/\ro = false/\Qs ti.size (.agg ds)/\j + ti.size<=cs.length) ?_ ⟨by simp,hro,hk,hj⟩ h
 simp [memStep,hx.get,hy.get,storeStep,ht,hB,hne,AV.cells]
end
section
variable {P : Program} {ty : TypeId → Option TI} {n : Nat} {l : List Oper} {K : St → Prop} {tp : TypeId} {pos : String} {aft : Array Edge} {gd : Option (Nat × Bool)} {env : List (Nat × AV)} {bx bx0 : List (Nat × Option Box)} {nx : Nat} {d : Tmp} {t : TypeId}
theorem L_alloc (hty:TyOk P ty) {ti:TI} {z:AV} (ht:ty t = some ti) (hz:zeroE ti = z) (hk:Qs ti.size z) (hd:Je n (some d) = true) (hn:box? bx0 nx = none)
  (h:WL P n bx0 l ⟨(d,.ptr nx 0 0)::env,(nx,some ⟨[z],ti.size,false,false⟩)::bx,nx + 1⟩ K):WL P n bx0 (⟨some d,.alloc t,tp,pos,aft,gd⟩::l) ⟨env,bx,nx⟩ K:=by
 subst hz
 exact ⟨hd,λ hS=>⟨.ptr nx 0 0,_,_,AStep.mem hty (by simp only [memStep,ht]) hk,stay_cons hn hS,h⟩⟩
end
section
variable {P : Program} {ty : TypeId → Option TI} {n : Nat} {ops l : List Oper} {K : St → Prop} {tp : TypeId} {pos : String} {aft : Array Edge} {env : List (Nat × AV)} {bx : List (Nat × Option Box)} {nx : Nat} {d : Tmp} {q : Bool}
 {t:TypeId} {x y:Operand}
theorem S_makeV {e:TypeId} {ei:TI} {k k':IntKind} {m:Nat} {vs:List AV} (ht:(ty t).map TI.k = some (.slice e)) (he:ty e = some ei) (hx:Gt env x (.int k (m:Int))) (hy:Gt env y (.int k' (m:Int)))
  (h3:decide ((ei.bytes:Int) * (m:Int)<=281474976710656/\(m:Int)<=9223372036854775807/\m * ei.size<=16777216/\0 < ei.size) = true) (hz:chunk (Ut ei.k) ei.size m (zeros ei.size ei.zero m) = vs)
  (hk:(vs.all λ x=>(x.cells.length == ei.size) && x.cells.all AV.cellOk && (Ut ei.k || x.flat)) = true) (hd:Je n (some d) = true)
  (h:WX q P ty n ops l ⟨(d,.ls ei.size false true vs)::env,bx,nx⟩ K):WX q P ty n ops (⟨some d,.makeSlice t x y,tp,pos,aft,none⟩::l) ⟨env,bx,nx⟩ K:=by
 subst hz
 obtain ⟨a1,a2,a3,a4⟩:=of_decide_eq_true h3
 have hv:U5 ty bx (St.get ⟨env,bx,nx⟩) (.makeSlice t x y) = some (0<=(m:Int)/\(m:Int) = m/\(ei.bytes:Int) * (m:Int)<=281474976710656/\(m:Int)<=9223372036854775807/\(m:Int).toNat * ei.size<=16777216/\0 < ei.size /\
    (∀ x∈chunk (Ut ei.k) ei.size (m:Int).toNat (zeros ei.size ei.zero (m:Int).toNat),Qs ei.size x/\(Ut ei.k || x.flat) = true),.ls ei.size false true (chunk (Ut ei.k) ei.size (m:Int).toNat (zeros ei.size ei.zero (m:Int).toNat))):=by
  simp only [U5,makeVal,ht,he,hx.get,hy.get]
 refine S_val hd hv ⟨Int.natCast_nonneg _,rfl,a1,a2,a3,a4,λ x hx=>?_⟩ h
 have:=List.all_eq_true.1 hk x hx
 simp only [Bool.and_eq_true,beq_iff_eq] at this
 exact ⟨⟨this.1.1,λ y hy=>List.all_eq_true.1 this.1.2 y hy⟩,this.2⟩
end
section
variable {P : Program} {ty : TypeId → Option TI} {n : Nat} {l : List Oper} {K : St → Prop} {tp : TypeId} {pos : String} {aft : Array Edge} {gd : Option (Nat × Bool)} {env : List (Nat × AV)} {bx : List (Nat × Option Box)} {nx : Nat} {t : TypeId} {x y : Operand} {v : AV}
theorem L_storeE (hty:TyOk P ty) {ti:TI} {id e j:Nat} {B:Box} (ht:ty t = some ti) (hx:Gt env x (.ptr id e j)) (hB:box? bx id = some B) (hj:j = 0) (hs:ti.size = B.st) (he:e < B.elems.length) (hro:B.ro = false) (hy:Gt env y v) (hk:Qs ti.size v)
  (h:WL P n [] l ⟨env,(id,some ⟨B.elems.set e v,B.st,B.slack,B.ro⟩)::bx,nx⟩ K):WL P n [] (⟨none,.store t x y,tp,pos,aft,gd⟩::l) ⟨env,bx,nx⟩ K:=by
 subst hj
 exact ⟨rfl,λ _=>⟨.undef,_,_,AStep.mem hty (p:=e < B.elems.length/\B.ro = false/\Qs ti.size v) (by simp [memStep,hx.get,hy.get,storeStep,ht,hB,hs]) ⟨he,hro,hk⟩,(λ id B h=>by cases h),h⟩⟩
end
theorem retR_normal {ty:TypeId->Option TI} {rs:List ResultVar} {R:AV->List (Nat×Option Box)->Nat->Prop} {s:St} (h:retR ty rs R .ret s):retR ty rs R .normal s:=⟨trivial,h.2⟩
end Go.Av
