/- A small logic for code over pictures of values and boxes: part 11. -/
import Derived.Test.YtaolmfgpebncjaaGreatGj
set_option linter.unusedSimpArgs false
set_option linter.unusedVariables false
namespace Go.Av
open Classical in
noncomputable def Loc.cat (L1:Loc) (m:Nat) (L2:Loc):Loc where
 pos e:=if e < m then L1.pos e else L2.pos (e - m)
 own b:=(L1.virt = false/\L1.own b)∨(L2.virt = false/\L2.own b)
 size b:=if L1.virt = false/\L1.own b then L1.size b else L2.size b
 lim n b:=if L1.virt = false/\L1.own b then L1.lim (min n m) b else L2.lim (n - m) b
 st:=L1.st
 slack:=L1.slack || L2.slack
 virt:=L1.virt && L2.virt
section
variable {L1 L2 : Loc} {m : Nat}
theorem Loc.cat_pos1 {e:Nat} (h:e < m):(L1.cat m L2).pos e = L1.pos e:=if_pos h
theorem Loc.cat_pos2 {e:Nat}:(L1.cat m L2).pos (m + e) = L2.pos e:=by
 show (if m + e < m then _ else _) = _
 rw [if_neg (by omega),Nat.add_sub_cancel_left]
theorem Loc.cat_size1 {b:Nat} (h:L1.virt = false/\L1.own b):(L1.cat m L2).size b = L1.size b:=if_pos h
theorem Loc.cat_size2 {b:Nat} (h:¬ (L1.virt = false/\L1.own b)):(L1.cat m L2).size b = L2.size b:=if_neg h
theorem Loc.cat_lim1 {n b:Nat} (h:L1.virt = false/\L1.own b):(L1.cat m L2).lim n b = L1.lim (min n m) b:=if_pos h
theorem Loc.cat_lim2 {n b:Nat} (h:¬ (L1.virt = false/\L1.own b)):(L1.cat m L2).lim n b = L2.lim (n - m) b:=if_neg h
theorem Loc.cat_virt1 (h:L1.virt = false):(L1.cat m L2).virt = false:=by show (L1.virt && L2.virt) = false;rw [h];rfl
theorem Loc.cat_virt2 (h:L2.virt = false):(L1.cat m L2).virt = false:=by show (L1.virt && L2.virt) = false;rw [h,Bool.and_false]
theorem SlOk.cat1 {off len cap c:Nat} {a:Option Addr} (h:SlOk L1 off len cap a c) (hm:off + cap<=m):SlOk (L1.cat m L2) off len cap a c:=by
 obtain ⟨s1,s2,s3,s4,s5⟩:=h
 refine ⟨s1,s2,λ h=>s3 ?_,s4,λ hc=>?_⟩
 ·have h:(L1.slack || L2.slack) = false:=h
  simp only [Bool.or_eq_false_iff] at h
  exact h.1
 ·obtain ⟨v,b,o,e,q1,q2,q3,q4⟩:=s5 hc
  refine ⟨Loc.cat_virt1 v,b,o,e,.inl ⟨v,q1⟩,?_,λ i hi=>?_,λ n hn=>?_⟩
  ·rw [Loc.cat_size1 ⟨v,q1⟩];exact q2
  ·rw [Loc.cat_pos1 (by omega)];exact q3 i hi
  ·rw [Loc.cat_lim1 ⟨v,q1⟩]
   have h1:=q4 (min n m) (by omega)
   have h2:(min n m - off) * L1.st<=(n - off) * L1.st:=Nat.mul_le_mul_right _ (by omega)
   show _<=o + (n - off) * L1.st
   omega
theorem SlOk.cat2 {off len cap c:Nat} {a:Option Addr} (h:SlOk L2 off len cap a c) (hst:L1.st = L2.st) (hap:L1.virt = false->L2.virt = false->∀ k,L1.own k->¬ L2.own k):SlOk (L1.cat m L2) (m + off) len cap a c:=by
 obtain ⟨s1,s2,s3,s4,s5⟩:=h
 refine ⟨s1,s2,λ h=>s3 ?_,s4,λ hc=>?_⟩
 ·have h:(L1.slack || L2.slack) = false:=h
  simp only [Bool.or_eq_false_iff] at h
  exact h.2
 ·obtain ⟨v,b,o,e,q1,q2,q3,q4⟩:=s5 hc
  have hn1:¬ (L1.virt = false/\L1.own b):=λ k=>hap k.1 v b k.2 q1
  refine ⟨Loc.cat_virt2 v,b,o,e,.inr ⟨v,q1⟩,?_,λ i hi=>?_,λ n hn=>?_⟩
  ·rw [Loc.cat_size2 hn1];show o + c * L1.st<=_;rw [hst];exact q2
  ·rw [Nat.add_assoc,Loc.cat_pos2];show _ = (b,o + i * L1.st);rw [hst];exact q3 i hi
  ·rw [Loc.cat_lim2 hn1]
   have h1:=q4 (n - m) (by omega)
   show _<=o + (n - (m + off)) * L1.st
   rw [hst,show n - (m + off) = n - m - off by omega]
   exact h1
end
inductive Cat (i m j:Nat):AV->AV->Prop
 | pure {x:AV} (h:Pure x):Cat i m j x x
 | sl0 (id off len cap:Nat) (h:id≠i):Cat i m j (.sl id off len cap) (.sl id off len cap)
 | ptr0 (id e p:Nat) (h:id≠i):Cat i m j (.ptr id e p) (.ptr id e p)
 | sl1 (off len cap:Nat) (h:off + cap<=m):Cat i m j (.sl i off len cap) (.sl i off len cap)
 | sl2 (off len cap off':Nat) (h:off' = m + off):Cat i m j (.sl j off len cap) (.sl i off' len cap)
 | ptr1 (e p:Nat) (h:e < m):Cat i m j (.ptr i e p) (.ptr i e p)
 | ptr2 (e p:Nat):Cat i m j (.ptr j e p) (.ptr i (m + e) p)
 | agg {cs ds:List AV} (hl:ds.length = cs.length) (h:∀ (n:Nat) (c d:AV),cs[n]? = some c->ds[n]? = some d->Cat i m j c d):Cat i m j (.agg cs) (.agg ds)
 | tup {cs ds:List AV} (hl:ds.length = cs.length) (h:∀ (n:Nat) (c d:AV),cs[n]? = some c->ds[n]? = some d->Cat i m j c d):Cat i m j (.tup cs) (.tup ds)
theorem Cat.rep {i m j:Nat} {w:World} {φ φ':Nat->Option Loc} {ok:Nat->Nat->Prop} {L1 L2:Loc} (h1:φ i = some L1) (h2:φ j = some L2) (hst:L1.st = L2.st) (hap:L1.virt = false->L2.virt = false->∀ k,L1.own k->¬ L2.own k)
  (hk:φ' i = some (L1.cat m L2)) (hφ:∀ id,id≠i->φ' id = φ id) {x y:AV} (r:Cat i m j x y):∀ {v:Value},Rep w φ ok x v->Rep w φ' ok y v:=by
 induction r with
 | pure h=>exact λ k=>(h w φ ok _ k).mono (λ _ _ h=>⟨h,rfl⟩) (λ id L e=>by cases e)
 | sl0 id off len cap h=>intro v hr;cases hr with|sl _ _ _ _ L a c hL hS=>exact .sl _ _ _ _ L a c (by rw [hφ id h];exact hL) hS
 | ptr0 id e p h=>intro v hr;cases hr with|ptr _ _ _ L hL hv=>exact .ptr _ _ _ L (by rw [hφ id h];exact hL) hv
 | sl1 off len cap h =>
   intro v hr
   cases hr with|sl _ _ _ _ L a c hL hS =>
   obtain rfl:L1 = L:=by rw [h1] at hL;exact Option.some.inj hL
   exact .sl _ _ _ _ _ a c hk (hS.cat1 h)
 | sl2 off len cap off' h =>
   intro v hr
   subst h
   cases hr with|sl _ _ _ _ L a c hL hS =>
   obtain rfl:L2 = L:=by rw [h2] at hL;exact Option.some.inj hL
   exact .sl _ _ _ _ _ a c hk (hS.cat2 hst hap)
 | ptr1 e p h =>
   intro v hr
   cases hr with|ptr _ _ _ L hL hv =>
   obtain rfl:L1 = L:=by rw [h1] at hL;exact Option.some.inj hL
   have:=Rep.ptr (w:=w) (φ:=φ') (ok:=ok) i e p _ hk (Loc.cat_virt1 hv)
   rwa [Loc.cat_pos1 h] at this
 | ptr2 e p =>
   intro v hr
   cases hr with|ptr _ _ _ L hL hv =>
   obtain rfl:L2 = L:=by rw [h2] at hL;exact Option.some.inj hL
   have:=Rep.ptr (w:=w) (φ:=φ') (ok:=ok) i (m + e) p _ hk (Loc.cat_virt2 hv)
   rwa [Loc.cat_pos2] at this
 | @agg cs ds hl h ih =>
   intro v hr
   cases hr with|agg _ vs g1 g2 =>
   refine .agg _ vs (by omega) λ n d v hd hv=>?_
   have hi:n < cs.length:=by rw [<-hl];exact (List.getElem?_eq_some_iff.1 hd).1
   exact ih n cs[n] d (by simp) hd (g2 n _ v (by simp) hv)
 | @tup cs ds hl h ih =>
   intro v hr
   cases hr with|tup _ vs g1 g2 =>
   refine .tup _ vs (by omega) λ n d v hd hv=>?_
   have hi:n < cs.length:=by rw [<-hl];exact (List.getElem?_eq_some_iff.1 hd).1
   exact ih n cs[n] d (by simp) hd (g2 n _ v (by simp) hv)
theorem Cat.cellOk {i m j:Nat} {x y:AV} (h:Cat i m j x y):y.cellOk = x.cellOk:=by cases h<;>rfl
def CatL (i m j:Nat):List AV->List AV->Prop
 | [],[]=>True
 | x::l,y::r=>Cat i m j x y/\CatL i m j l r
 | _,_=>False
theorem CatL.get {i m j:Nat}:∀ {l r:List AV},CatL i m j l r->r.length = l.length/\∀ (n:Nat) (x y:AV),l[n]? = some x->r[n]? = some y->Cat i m j x y
 | [],[],_=>⟨rfl,λ n x y h=>by simp at h⟩
 | a::l,b::r,h=>by
   obtain ⟨h1,h2⟩:=CatL.get h.2
   refine ⟨by simp [h1],λ n x y hx hy=>?_⟩
   cases n with
   | zero=>simp at hx hy;subst hx;subst hy;exact h.1
   | succ n=>exact h2 n x y (by simpa using hx) (by simpa using hy)
 | [],_::_,h=>h.elim
 | _::_,[],h=>h.elim
theorem catL_nil {i m j:Nat}:CatL i m j [] []:=trivial
theorem Jy {i m j:Nat} {x y:AV} {l r:List AV} (h:Cat i m j x y) (q:CatL i m j l r):CatL i m j (x::l) (y::r):=⟨h,q⟩
theorem catL_pure {i m j:Nat}:∀ {l:List AV},PureAll l->CatL i m j l l
 | [],_=>trivial
 | _::_,h=>⟨.pure h.1,catL_pure h.2⟩
theorem cat_agg {i m j:Nat} {cs ds:List AV} (h:CatL i m j cs ds):Cat i m j (.agg cs) (.agg ds):=.agg h.get.1 h.get.2
def CatX (i m j:Nat) (E E':List AV):Prop:=E'.length = E.length/\∀ (n:Nat) (x y:AV),E[n]? = some x->E'[n]? = some y->CatL i m j x.cells y.cells
theorem catX_pure {i m j:Nat} {E:List AV} (h:Uf E):CatX i m j E E:=⟨rfl,λ n x y h1 h2=>by rw [h1] at h2;obtain rfl:=Option.some.inj h2;exact catL_pure (h x (List.mem_of_getElem? h1)).1⟩
theorem catX_nil {i m j:Nat}:CatX i m j [] []:=⟨rfl,λ n x y h=>by simp at h⟩
theorem catX_cons {i m j:Nat} {x y:AV} {E E':List AV} (h:CatL i m j x.cells y.cells) (q:CatX i m j E E'):CatX i m j (x::E) (y::E'):=by
 refine ⟨by simp [q.1],λ n a b ha hb=>?_⟩
 cases n with
 | zero=>simp at ha hb;subst ha;subst hb;exact h
 | succ n=>exact q.2 n a b (by simpa using ha) (by simpa using hb)
theorem catX_app {i m j:Nat} {E E' F F':List AV} (h:CatX i m j E E') (q:CatX i m j F F'):CatX i m j (E++F) (E'++F'):=by
 refine ⟨by simp [h.1,q.1],λ n a b ha hb=>?_⟩
 rw [List.getElem?_append] at ha hb
 rw [h.1] at hb
 split at ha
 ·rename_i g;rw [if_pos g] at hb;exact h.2 n a b ha hb
 ·rename_i g;rw [if_neg g] at hb;exact q.2 _ a b ha hb
theorem CatX.ok {i m j:Nat} {E E':List AV} {st:Nat} (h:CatX i m j E E') (hk:∀ (n:Nat) (x:AV),E[n]? = some x->Qs st x):∀ (n:Nat) (y:AV),E'[n]? = some y->Qs st y:=by
 intro n y hy
 have hn:n < E.length:=by rw [<-h.1];exact (List.getElem?_eq_some_iff.1 hy).1
 have hx:E[n]? = some E[n]:=by simp
 obtain ⟨c1,c2⟩:=(h.2 n _ y hx hy).get
 have ho:=hk n _ hx
 refine ⟨by rw [c1];exact ho.1,λ z hz=>?_⟩
 obtain ⟨q,hq⟩:=List.mem_iff_getElem?.1 hz
 have hql:q < (E[n]).cells.length:=by rw [<-c1];exact (List.getElem?_eq_some_iff.1 hq).1
 have hc:(E[n]).cells[q]? = some (E[n]).cells[q]:=by simp
 rw [(c2 q _ z hc hq).cellOk]
 exact ho.2 _ (List.mem_of_getElem? hc)
def CatE (i m j:Nat) (env:List (Nat×AV)):List (Nat×AV)->Prop
 | []=>True
 | (t,v)::l=>(∃ u,look env t = some u/\Cat i m j u v)/\CatE i m j env l
theorem CatE.look {i m j:Nat} {env:List (Nat×AV)}:∀ {l:List (Nat×AV)},CatE i m j env l->∀ t v,Av.look l t = some v->∃ u,Av.look env t = some u/\Cat i m j u v
 | [],_,t,v,h=>by cases h
 | (n,x)::l,h,t,v,e=>by
   simp only [look_cons] at e
   split at e
   ·rename_i e';subst e';cases e;exact h.1
   ·exact CatE.look h.2 t v e
theorem catE_nil {i m j:Nat} {env:List (Nat×AV)}:CatE i m j env []:=trivial
theorem catE_cons {i m j:Nat} {env l:List (Nat×AV)} {t:Nat} {v u:AV} (h:look env t = some u) (hr:Cat i m j u v) (q:CatE i m j env l):CatE i m j env ((t,v)::l):=⟨⟨u,h,hr⟩,q⟩
def CatB (i m j:Nat) (bx:List (Nat×Option Box)):List (Nat×Option Box)->Prop
 | []=>True
 | (id,b)::l=>(id≠i/\id≠j/\∀ b',b = some b'->∃ E,box? bx id = some ⟨E,b'.st,b'.slack,b'.ro⟩/\CatX i m j E b'.elems)/\CatB i m j bx l
theorem CatB.box {i m j:Nat} {bx:List (Nat×Option Box)}:∀ {l:List (Nat×Option Box)},CatB i m j bx l->∀ id b',box? l id = some b'->id≠i/\id≠j/\∃ E,box? bx id = some ⟨E,b'.st,b'.slack,b'.ro⟩/\CatX i m j E b'.elems
 | [],_,id,b,h=>by cases h
 | (n,x)::l,h,id,b,e=>by
   rw [box?_cons] at e
   split at e
   ·rename_i e';subst e';exact ⟨h.1.1,h.1.2.1,h.1.2.2 b e⟩
   ·exact CatB.box h.2 id b e
theorem catB_nil {i m j:Nat} {bx:List (Nat×Option Box)}:CatB i m j bx []:=trivial
theorem catB_cons {i m j:Nat} {bx l:List (Nat×Option Box)} {id st:Nat} {E E':List AV} {sl ro:Bool} (h1:id≠i) (h2:id≠j) (h:box? bx id = some ⟨E,st,sl,ro⟩) (hr:CatX i m j E E') (q:CatB i m j bx l):CatB i m j bx ((id,some ⟨E',st,sl,ro⟩)::l) :=
 ⟨⟨h1,h2,λ b' e=>by cases e;exact ⟨E,h,hr⟩⟩,q⟩
theorem lies_cat {w:World} {L1 L2:Loc} {m1 m2:Nat} (hst:L1.st = L2.st) (hap:L1.virt = false->L2.virt = false->∀ k,L1.own k->¬ L2.own k) (v1:L1.virt = true->m1 = 0) (v2:L2.virt = true->m2 = 0)
  (h1:L1.virt = false->Lies w L1 m1) (h2:L2.virt = false->Lies w L2 m2):Lies w (L1.cat m1 L2) (m1 + m2):=by
 have vf1:∀ e,e < m1->L1.virt = false:=λ e he=>by
  cases hv:L1.virt with
  | false=>rfl
  | true=>have:=v1 hv;omega
 have vf2:∀ e,e < m2->L2.virt = false:=λ e he=>by
  cases hv:L2.virt with
  | false=>rfl
  | true=>have:=v2 hv;omega
 have nf:∀ {b},L2.virt = false->L2.own b->¬ (L1.virt = false/\L1.own b):=λ v q k=>hap k.1 v _ k.2 q
 have split:∀ e,e < m1 + m2->e < m1∨∃ d,e = m1 + d/\d < m2:=λ e he=>by
  by_cases h:e < m1
  ·exact .inl h
  ·exact .inr ⟨e - m1,by omega,by omega⟩
 refine ⟨λ b hb=>?_,λ e he=>?_,λ k e he hk=>?_,λ e e' he he' hne hb=>?_⟩
 ·rcases hb with ⟨v,q⟩|⟨v,q⟩
  ·rw [Loc.cat_size1 ⟨v,q⟩];exact (h1 v).blk b q
  ·rw [Loc.cat_size2 (nf v q)];exact (h2 v).blk b q
 ·rcases split e he with g|⟨d,rfl,g⟩
  ·have v:=vf1 e g
   obtain ⟨o1,o2⟩:=(h1 v).own e g
   rw [Loc.cat_pos1 g,Loc.cat_size1 ⟨v,o1⟩]
   exact ⟨.inl ⟨v,o1⟩,o2⟩
  ·have v:=vf2 d g
   obtain ⟨o1,o2⟩:=(h2 v).own d g
   rw [Loc.cat_pos2,Loc.cat_size2 (nf v o1)]
   refine ⟨.inr ⟨v,o1⟩,?_⟩
   show _ + L1.st<=_
   rw [hst];exact o2
 ·rcases split e (by omega) with g|⟨d,rfl,g⟩
  ·have v:=vf1 e g
   obtain ⟨o1,o2⟩:=(h1 v).own e g
   rw [Loc.cat_pos1 g,Loc.cat_lim1 ⟨v,o1⟩]
   exact (h1 v).lim (min k m1) e (by omega) (by omega)
  ·have v:=vf2 d g
   obtain ⟨o1,o2⟩:=(h2 v).own d g
   rw [Loc.cat_pos2,Loc.cat_lim2 (nf v o1)]
   show _ + L1.st<=_
   rw [hst]
   exact (h2 v).lim (k - m1) d (by omega) (by omega)
 ·show _ + L1.st<=_∨_ + L1.st<=_
  rcases split e he with g|⟨d,rfl,g⟩
  ·have v:=vf1 e g
   rcases split e' he' with g'|⟨d',rfl,g'⟩
   ·rw [Loc.cat_pos1 g,Loc.cat_pos1 g'] at hb ⊢
    exact (h1 v).dis e e' g g' hne hb
   ·have v':=vf2 d' g'
    rw [Loc.cat_pos1 g,Loc.cat_pos2] at hb
    exact absurd ((h2 v').own d' g').1 (hap v v' _ (by rw [<-hb];exact ((h1 v).own e g).1))
  ·have v:=vf2 d g
   rcases split e' he' with g'|⟨d',rfl,g'⟩
   ·have v':=vf1 e' g'
    rw [Loc.cat_pos2,Loc.cat_pos1 g'] at hb
    exact absurd ((h2 v).own d g).1 (hap v' v _ (by rw [hb];exact ((h1 v').own e' g').1))
   ·rw [Loc.cat_pos2,Loc.cat_pos2] at hb ⊢
    rw [hst]
    exact (h2 v).dis d d' g g' (by omega) hb
theorem rel_cat {G:Gh} {bx bx':List (Nat×Option Box)} {nx:Nat} {φ:Nat->Option Loc} {w:World} (R:Rel G bx nx φ w) {i j sz:Nat} {E1 E2 E1' E2':List AV} {sl1 sl2:Bool} (hi0:G.nx0<=i) (hij:i≠j) (hi:box? bx i = some ⟨E1,sz,sl1,false⟩) (hj:box? bx j = some ⟨E2,sz,sl2,false⟩)
  (c1:CatX i E1.length j E1 E1') (c2:CatX i E1.length j E2 E2') (hB:CatB i E1.length j bx bx') :
  ∃ φ',Rel G ((i,some ⟨E1'++E2',sz,sl1 || sl2,false⟩)::bx') nx φ' w /\
    ∀ (x y:AV) (v:Value),Cat i E1.length j x y->Rep w φ (OK G bx φ w) x v->Rep w φ' (OK G ((i,some ⟨E1'++E2',sz,sl1 || sl2,false⟩)::bx') φ' w) y v:=by
 obtain ⟨L1,hL1,B1,m1⟩:=R.box i _ hi
 obtain ⟨L2,hL2,B2,m2⟩:=R.box j _ hj
 have hap:=R.apart i j _ _ L1 L2 hi hj hij hL1 hL2
 have hst:L1.st = L2.st:=by rw [<-B1.st,<-B2.st]
 let L:=L1.cat E1.length L2
 let φ':Nat->Option Loc:=upd φ i L
 have hφ:∀ id,id≠i->φ' id = φ id:=λ id h=>by simp only [φ',upd,if_neg h]
 have hk:φ' i = some L:=by simp [φ',upd]
 have hin:i < nx:=by
  rcases Nat.lt_or_ge i nx with k|k
  ·exact k
  ·rw [R.dom i k] at hL1;cases hL1
 have bk:∀ id b,box? ((i,some ⟨E1'++E2',sz,sl1 || sl2,false⟩)::bx') id = some b->(id = i/\b = ⟨E1'++E2',sz,sl1 || sl2,false⟩)∨(id≠i/\id≠j/\∃ E,box? bx id = some ⟨E,b.st,b.slack,b.ro⟩/\CatX i E1.length j E b.elems):=by
  intro id b h
  rw [box?_cons] at h
  split at h
  ·rename_i e;cases h;exact .inl ⟨e.symm,rfl⟩
  ·rename_i e;exact .inr (hB.box id b h)
 have hokB:∀ b o,okB bx φ b o->okB ((i,some ⟨E1'++E2',sz,sl1 || sl2,false⟩)::bx') φ' b o:=by
  intro b o h id box M g1 g2 g3 g4
  rcases bk id box g1 with ⟨rfl,rfl⟩|⟨n2,n3,E,q1,q2⟩
  ·rw [hk] at g2
   obtain rfl:=Option.some.inj g2
   rcases g4 with ⟨v,q⟩|⟨v,q⟩
   ·have:=(h id _ L1 hi hL1 v q).1;cases this
   ·have:=(h j _ L2 hj hL2 v q).1;cases this
  ·have:=h id _ M q1 (by rw [<-hφ id n2];exact g2) g3 g4
   rw [q2.1]
   exact this
 have rep:∀ (x y:AV) (v:Value),Cat i E1.length j x y->Rep w φ (OK G bx φ w) x v->Rep w φ' (OK G ((i,some ⟨E1'++E2',sz,sl1 || sl2,false⟩)::bx') φ' w) y v:=λ x y v hc hr =>
  (hc.rep hL1 hL2 hst hap hk hφ hr).mono (λ b o q=>⟨⟨q.1,hokB b o q.2.1,q.2.2⟩,rfl⟩) (λ _ _ e=>e)
 have cells:∀ {E E':List AV} (_:CatX i E1.length j E E') {n:Nat} {y:AV} {p:Nat} {z:AV},E'[n]? = some y->y.cells[p]? = some z->∃ x u,E[n]? = some x/\x.cells[p]? = some u/\Cat i E1.length j u z:=by
  intro E E' hc n y p z hy hz
  have hn:n < E.length:=by rw [<-hc.1];exact (List.getElem?_eq_some_iff.1 hy).1
  have hx:E[n]? = some E[n]:=by simp
  obtain ⟨k1,k2⟩:=(hc.2 n _ y hx hy).get
  have hp:p < (E[n]).cells.length:=by rw [<-k1];exact (List.getElem?_eq_some_iff.1 hz).1
  have hu:(E[n]).cells[p]? = some (E[n]).cells[p]:=by simp
  exact ⟨_,_,hx,hu,k2 p _ z hu hz⟩
 have vf1:∀ n:Nat,n < E1.length->L1.virt = false:=λ n hn=>by
  cases hv:L1.virt with
  | false=>rfl
  | true=>have:=B1.virt hv;simp only at this;rw [this] at hn;simp at hn
 have vf2:∀ n:Nat,n < E2.length->L2.virt = false:=λ n hn=>by
  cases hv:L2.virt with
  | false=>rfl
  | true=>have:=B2.virt hv;simp only at this;rw [this] at hn;simp at hn
 refine ⟨φ',⟨R.os,R.tape,R.output,R.size,R.frame,R.kept,λ b o q=>⟨(R.okk b o q).1,hokB b o (R.okk b o q).2⟩,λ id b g=>?_,λ id id' b b' M M' g g' hne hM hM' hv hv' kb q1 q2=>?_,λ id hid=>?_,λ id hid=>?_,R.nxle⟩,rep⟩
 ·rcases bk id b g with ⟨rfl,rfl⟩|⟨n2,n3,E,q1,q2⟩
  ·refine ⟨L,hk,⟨B1.st,?_,λ n y hy=>?_,λ hv=>?_,λ hv=>?_,λ hv n y p z hy hz=>?_⟩,λ hv kb hkb=>?_⟩
   ·show (sl1 || sl2) = (L1.slack || L2.slack)
    rw [<-B1.slack,<-B2.slack]
   ·simp only [List.getElem?_append] at hy
    split at hy
    ·exact c1.ok B1.len n y hy
    ·have:=c2.ok B2.len _ y hy
     rw [<-hst] at this
     exact this
   ·have hv:(L1.virt && L2.virt) = true:=hv
    simp only [Bool.and_eq_true] at hv
    have e1:=B1.virt hv.1
    have e2:=B2.virt hv.2
    simp only at e1 e2
    have l1:=c1.1
    have l2:=c2.1
    rw [e1] at l1
    rw [e2] at l2
    have z1:E1' = []:=List.length_eq_zero_iff.1 (by simpa using l1)
    have z2:E2' = []:=List.length_eq_zero_iff.1 (by simpa using l2)
    rw [z1,z2]
    rfl
   ·simp only [List.length_append]
    rw [c1.1,c2.1]
    exact lies_cat hst hap (λ hv=>by have:=B1.virt hv;simp only at this;rw [this];rfl) (λ hv=>by have:=B2.virt hv;simp only at this;rw [this];rfl) B1.lies B2.lies
   ·simp only [List.getElem?_append] at hy
    split at hy
    ·rename_i hn
     obtain ⟨x,u,e1,e2,e3⟩:=cells c1 hy hz
     have hn':n < E1.length:=by rw [<-c1.1];exact hn
     obtain ⟨v,r1,r2⟩:=B1.cont (vf1 n hn') n x p u e1 e2
     refine ⟨v,?_,rep _ _ _ e3 r2⟩
     rw [Loc.cat_pos1 hn']
     exact r1
    ·rename_i hn
     obtain ⟨x,u,e1,e2,e3⟩:=cells c2 hy hz
     have hn':=(List.getElem?_eq_some_iff.1 e1).1
     obtain ⟨v,r1,r2⟩:=B2.cont (vf2 _ hn') _ x p u e1 e2
     refine ⟨v,?_,rep _ _ _ e3 r2⟩
     have hnn:n = E1.length + (n - E1'.length):=by have:=c1.1;omega
     have hp:L.pos n = L2.pos (n - E1'.length):=by
      have h:=Loc.cat_pos2 (L1:=L1) (L2:=L2) (m:=E1.length) (e:=n - E1'.length)
      rwa [<-hnn] at h
     rw [hp]
     exact r1
   ·rcases hkb with ⟨v,q⟩|⟨v,q⟩
    ·exact m1 v kb q
    ·exact m2 v kb q
  ·obtain ⟨M,hM,BM,mM⟩:=R.box id _ q1
   refine ⟨M,by rw [hφ id n2];exact hM,⟨BM.st,BM.slack,q2.ok BM.len,λ hv=>?_,λ hv=>?_,λ hv n y p z hy hz=>?_⟩,mM⟩
   ·have e1:=BM.virt hv
    simp only at e1
    have l1:=q2.1
    rw [e1] at l1
    exact List.length_eq_zero_iff.1 (by simpa using l1)
   ·rw [q2.1];exact BM.lies hv
   ·obtain ⟨x,u,e1,e2,e3⟩:=cells q2 hy hz
    obtain ⟨v,r1,r2⟩:=BM.cont hv n x p u e1 e2
    exact ⟨v,r1,rep _ _ _ e3 r2⟩
 ·rcases bk id b g with ⟨rfl,rfl⟩|⟨n2,n3,E,p1,p2⟩
  ·rcases bk id' b' g' with ⟨rfl,rfl⟩|⟨n2',n3',E',p1',p2'⟩
   ·exact hne rfl
   ·rw [hk] at hM
    obtain rfl:=Option.some.inj hM
    rw [hφ id' n2'] at hM'
    rcases q1 with ⟨v,q⟩|⟨v,q⟩
    ·exact R.apart id id' _ _ L1 M' hi p1' (λ e=>n2' e.symm) hL1 hM' v hv' kb q q2
    ·exact R.apart j id' _ _ L2 M' hj p1' (λ e=>n3' e.symm) hL2 hM' v hv' kb q q2
  ·rw [hφ id n2] at hM
   rcases bk id' b' g' with ⟨rfl,rfl⟩|⟨n2',n3',E',p1',p2'⟩
   ·rw [hk] at hM'
    obtain rfl:=Option.some.inj hM'
    rcases q2 with ⟨v,q⟩|⟨v,q⟩
    ·exact R.apart id id' _ _ M L1 p1 hi n2 hM hL1 hv v kb q1 q
    ·exact R.apart id j _ _ M L2 p1 hj n3 hM hL2 hv v kb q1 q
   ·rw [hφ id' n2'] at hM'
    exact R.apart id id' _ _ M M' p1 p1' hne hM hM' hv hv' kb q1 q2
 ·have:id≠i:=by omega
  rw [hφ id this]
  exact R.dom id hid
 ·have:id≠i:=by omega
  rw [hφ id this]
  exact R.agree id hid
theorem sub_cat {G:Gh} {st:St} {env:List (Nat×AV)} {bx':List (Nat×Option Box)} (i j:Nat) {sz:Nat} {E1 E2 E1' E2' F:List AV} {sl1 sl2 sl:Bool} (hi0:G.nx0<=i) (hij:i≠j) (hi:box? st.bx i = some ⟨E1,sz,sl1,false⟩) (hj:box? st.bx j = some ⟨E2,sz,sl2,false⟩)
  (c1:CatX i E1.length j E1 E1') (c2:CatX i E1.length j E2 E2') (hE:CatE i E1.length j st.env env) (hB:CatB i E1.length j st.bx bx') (hF:E1'++E2' = F) (hsl:(sl1 || sl2) = sl) :
  Sub G st ⟨env,(i,some ⟨F,sz,sl,false⟩)::bx',st.nx⟩:=by
 subst hF hsl
 intro φ a w r
 obtain ⟨φ',h1,h2⟩:=rel_cat r.rel hi0 hij hi hj c1 c2 hB
 refine ⟨φ',h1,r.defers,r.sz,λ t v hv=>?_⟩
 obtain ⟨u,e1,e2⟩:=hE.look t v hv
 obtain ⟨e3,e4⟩:=r.env t u e1
 exact ⟨e3,h2 u v _ e2 e4⟩
end Go.Av
namespace Go.Av
def Yb (r:Nat):Nat->List Nat->List AV
 | _,[]=>[]
 | off,n::l=>.sl r off n n::Yb r (off + n) l
theorem outsN_length (r:Nat):∀ (off:Nat) (ns:List Nat),(Yb r off ns).length = ns.length
 | _,[]=>rfl
 | off,n::l=>by simp [Yb,outsN_length r (off + n) l]
theorem outsN_append (r:Nat):∀ (off:Nat) (ns ms:List Nat),Yb r off (ns++ms) = Yb r off ns++Yb r (off + ns.sum) ms
 | off,[],ms=>by simp [Yb]
 | off,n::l,ms=>by simp [Yb,outsN_append r (off + n) l ms,Nat.add_assoc]
theorem outsN_get (r:Nat):∀ (off:Nat) (ns:List Nat) (i:Nat) (x:AV),(Yb r off ns)[i]? = some x->∃ n,ns[i]? = some n/\x = .sl r (off + (ns.take i).sum) n n
 | _,[],i,x,h=>by simp [Yb] at h
 | off,n::l,0,x,h=>by simp [Yb] at h;exact ⟨n,rfl,by simp [<-h]⟩
 | off,n::l,i + 1,x,h=>by
   obtain ⟨m,h1,h2⟩:=outsN_get r (off + n) l i x (by simpa [Yb] using h)
   exact ⟨m,by simpa using h1,by rw [h2];simp [Nat.add_assoc]⟩
theorem outsN_at (r:Nat) (off:Nat) (ns:List Nat) {i n:Nat} (h:ns[i]? = some n):(Yb r off ns)[i]? = some (.sl r (off + (ns.take i).sum) n n):=by
 have hi:i < (Yb r off ns).length:=by rw [outsN_length];exact (List.getElem?_eq_some_iff.1 h).1
 obtain ⟨m,h1,h2⟩:=outsN_get r off ns i _ (List.getElem?_eq_getElem hi)
 rw [h] at h1
 obtain rfl:=Option.some.inj h1
 rw [List.getElem?_eq_getElem hi,h2]
theorem outsN_mem {r off:Nat} {ns:List Nat} {x:AV} (h:x∈Yb r off ns):∃ o n,x = .sl r o n n/\o + n<=off + ns.sum:=by
 obtain ⟨i,hi⟩:=List.mem_iff_getElem?.1 h
 obtain ⟨n,h1,h2⟩:=outsN_get r off ns i x hi
 refine ⟨_,n,h2,?_⟩
 have h3:(ns.take (i + 1)).sum<=ns.sum:=by
  have:=List.sum_append (l₁:=ns.take (i + 1)) (l₂:=ns.drop (i + 1))
  rw [List.take_append_drop] at this
  omega
 have h4:(ns.take (i + 1)).sum = (ns.take i).sum + n:=by
  rw [List.take_add_one,h1];simp
 omega
theorem outsN_own (r off:Nat) (ns:List Nat):OwnE (Yb r off ns):=λ x hx y hy=>by
 obtain ⟨o,n,rfl,_⟩:=outsN_mem hx
 simp only [AV.cells,List.mem_singleton] at hy
 subst hy
 exact own_sl _ _ _ _
theorem outsN_low {N:Nat} (r off:Nat) (ns:List Nat) (h:r < N):LowX N (Yb r off ns):=λ x hx y hy=>by
 obtain ⟨o,n,rfl,_⟩:=outsN_mem hx
 simp only [AV.cells,List.mem_singleton] at hy
 subst hy
 exact .sl _ _ _ _ h
theorem U6 (ρ:Nat->Nat) (r:Nat):∀ (off:Nat) (ns:List Nat),RenEL ρ (Yb r off ns) (Yb (ρ r) off ns)
 | _,[]=>trivial
 | off,n::l=>⟨⟨.sl _ _ _ _,trivial⟩,U6 ρ r (off + n) l⟩
theorem outsN_cat {m j:Nat} (r:Nat):∀ (off:Nat) (ns:List Nat),off + ns.sum<=m->CatX r m j (Yb r off ns) (Yb r off ns)
 | _,[],_=>catX_nil
 | off,n::l,h=>by
   simp only [List.sum_cons] at h
   exact catX_cons ⟨.sl1 _ _ _ (by omega),trivial⟩ (outsN_cat r (off + n) l (by omega))
theorem outsN_cat0 {i m j:Nat} (r:Nat) (hr:r≠i):∀ (off:Nat) (ns:List Nat),CatX i m j (Yb r off ns) (Yb r off ns)
 | _,[]=>catX_nil
 | off,n::l=>catX_cons ⟨.sl0 _ _ _ _ hr,trivial⟩ (outsN_cat0 r hr (off + n) l)
theorem flat_part {α:Type}:∀ (rows:List (List α)) (i:Nat) (w:List α),rows[i]? = some w->(rows.flatten.drop ((rows.map List.length).take i).sum).take w.length = w
 | [],i,w,h=>by simp at h
 | a::l,0,w,h=>by simp at h;subst h;simp
 | a::l,i + 1,w,h=>by
   have ih:=flat_part l i w (by simpa using h)
   simp only [List.map_cons,List.take_succ_cons,List.sum_cons,List.flatten_cons]
   rw [List.drop_append]
   simp only [show ∀ s,a.length + s - a.length = s by intro s;omega,List.drop_of_length_le (show a.length<=a.length + ((l.map List.length).take i).sum by omega),List.nil_append]
   exact ih
theorem flat_fit {α:Type} (rows:List (List α)) {i:Nat} {w:List α} (h:rows[i]? = some w):((rows.map List.length).take i).sum + w.length<=rows.flatten.length:=by
 rw [List.length_flatten]
 have h1:(rows.map List.length)[i]? = some w.length:=by rw [List.getElem?_map,h];rfl
 have h3:=List.sum_append (l₁:=(rows.map List.length).take (i + 1)) (l₂:=(rows.map List.length).drop (i + 1))
 rw [List.take_append_drop,List.take_add_one,h1] at h3
 simp at h3
 omega
theorem view_outs {α:Type} (f:α->AV) (hf:∀ b,(f b).cells = [f b]) (hk:∀ b,(f b).cellOk = true) (hp:∀ b,Pure (f b)) {bx:List (Nat×Option Box)} {o r off' len cap:Nat} {rows:List (List α)} {sl ro sl' ro':Bool} {E:List AV} (ho:box? bx o = some ⟨E,1,sl,ro⟩)
  (hE:(E.drop off').take len = Yb r 0 (rows.map List.length)) (hfit:off' + len<=E.length) (hr:box? bx r = some ⟨rows.flatten.map f,1,sl',ro'⟩) (hl:len = rows.length):View bx (.sl o off' len cap) (.ls 1 true false (rows.map λ w=>.ls 1 true false (w.map f))):=by
 have hget:∀ (i:Nat) (x:AV),i < len->E[off' + i]? = some x->(Yb r 0 (rows.map List.length))[i]? = some x:=by
  intro i x hi hx
  rw [<-hE,List.getElem?_take_of_lt hi,List.getElem?_drop]
  exact hx
 refine View.sl (b:=⟨E,1,sl,ro⟩) ho hfit (by rw [List.length_map];exact hl.symm) (λ i x y hx hy=>?_) (λ i x y j c d hx hy hc hd=>?_)
 ·have hi:i < len:=by rw [hl];have:=(List.getElem?_eq_some_iff.1 hy).1;simpa using this
  obtain ⟨n,_,rfl⟩:=outsN_get _ _ _ _ _ (hget i x hi hx)
  rw [List.getElem?_map] at hy
  obtain ⟨w,_,rfl⟩:=Option.map_eq_some_iff.1 hy
  exact ⟨rfl,λ d hd=>by simp only [AV.cells,List.mem_singleton] at hd;subst hd;rfl⟩
 ·have hi:i < len:=by rw [hl];have:=(List.getElem?_eq_some_iff.1 hy).1;simpa using this
  obtain ⟨n,hn,rfl⟩:=outsN_get _ _ _ _ _ (hget i x hi hx)
  rw [List.getElem?_map] at hy
  obtain ⟨w,hw,rfl⟩:=Option.map_eq_some_iff.1 hy
  rw [List.getElem?_map,hw] at hn
  obtain rfl:=Option.some.inj hn
  cases j with
  | succ j=>simp [AV.cells] at hc
  | zero =>
    simp only [AV.cells,List.getElem?_cons_zero,Option.some.injEq] at hc hd
    subst hc hd
    have hfit2:=flat_fit rows hw
    refine view_sl (b:=⟨rows.flatten.map f,1,sl',ro'⟩) hr (by simp only [List.length_map];omega) (λ x hx=>?_) ?_
    ·obtain ⟨b,_,rfl⟩:=List.mem_map.1 hx
     rw [hf b]
     exact ⟨⟨hp b,trivial⟩,by simp [hk b]⟩
    ·rw [Nat.zero_add,<-List.map_drop,<-List.map_take,flat_part rows i w hw]
theorem view_rows {bx:List (Nat×Option Box)} {o r off' len cap:Nat} {rows:List (List UInt8)} {sl ro sl' ro':Bool} {E:List AV} (ho:box? bx o = some ⟨E,1,sl,ro⟩) (hE:(E.drop off').take len = Yb r 0 (rows.map List.length)) (hfit:off' + len<=E.length)
  (hr:box? bx r = some ⟨bA rows.flatten,1,sl',ro'⟩) (hl:len = rows.length):View bx (.sl o off' len cap) (sl1 (rows.map λ w=>sl1 (bA w))) :=
 view_outs (λ b:UInt8=>AV.int .u8 (b.toNat:Int)) (λ _=>rfl) (λ _=>rfl) (λ _=>Qb _ _) ho hE hfit hr hl
theorem view_rowsA {bx:List (Nat×Option Box)} {o r len cap:Nat} {rows:List (List UInt8)} {ns:List Nat} {sl ro sl' ro':Bool} {D:List AV} (ho:box? bx o = some ⟨Yb r 0 ns,1,sl,ro⟩) (hr:box? bx r = some ⟨D,1,sl',ro'⟩) (hD:D = bA rows.flatten) (hn:ns = rows.map List.length) (hl:len = rows.length) :
  View bx (.sl o 0 len cap) (sl1 (rows.map λ w=>sl1 (bA w))):=by
 subst hD hn
 exact view_rows ho (by rw [List.drop_zero,List.take_of_length_le (by rw [outsN_length,List.length_map];omega)]) (by rw [outsN_length,List.length_map];omega) hr hl
end Go.Av
namespace Go.Av
theorem sub_low {G:Gh} {st:St} {N:Nat} (h3:LowE N st.env) (h4:LowBs N st.bx) (h6:(st.bx.map (·.1)).all (λ i=>decide (i < N)) = true) (h5:G.nx0<=N):Sub G st ⟨st.env,st.bx,N⟩:=by
 intro φ a w r
 have R:=r.rel
 have hid:∀ id b,box? st.bx id = some b->id < N:=by
  intro id b hb
  simp only [box?] at hb
  cases hl:look st.bx id with
  | none=>rw [hl] at hb;cases hb
  | some o=>simpa using List.all_eq_true.1 h6 id (look_mem hl)
 have hok:∀ b o,OK G st.bx φ w b o->OK G st.bx (cutφ N φ) w b o:=by
  intro b o hk
  refine ⟨hk.1,λ id box L hb hL hv hbl=>?_,hk.2.2⟩
  simp only [cutφ,if_pos (hid id box hb)] at hL
  exact hk.2.1 id box L hb hL hv hbl
 have rep:∀ {x:AV} {u:Value},Low N x->Rep w φ (OK G st.bx φ w) x u->Rep w (cutφ N φ) (OK G st.bx (cutφ N φ) w) x u:=λ hx hu =>
  (Rep.low hx hu).mono (λ b o hk=>⟨hok b o hk,rfl⟩) (λ id L e=>e)
 refine ⟨cutφ N φ,⟨R.os,R.tape,R.output,R.size,R.frame,R.kept,λ b o hk=>⟨(R.okk b o hk).1,λ id box L hb hL hv hbl=>?_⟩,λ id b hb=>?_,λ id id' b b' L L' hb hb' hne hL hL' hv hv'=>?_,λ id hi=>?_,λ id hi=>?_,h5⟩,r.defers,r.sz,λ t v hv=>?_⟩
 ·simp only [cutφ,if_pos (hid id box hb)] at hL
  exact (R.okk b o hk).2 id box L hb hL hv hbl
 ·obtain ⟨L,hL,hB,hm⟩:=R.box id b hb
  refine ⟨L,by simp only [cutφ,if_pos (hid id b hb)];exact hL,⟨hB.st,hB.slack,hB.len,hB.virt,hB.lies,λ hv i x j y hx hy=>?_⟩,hm⟩
  obtain ⟨u,e1,e2⟩:=hB.cont hv i x j y hx hy
  exact ⟨u,e1,rep (h4.get id b hb x (List.mem_of_getElem? hx) y (List.mem_of_getElem? hy)) e2⟩
 ·simp only [cutφ,if_pos (hid id b hb),if_pos (hid id' b' hb')] at hL hL'
  exact R.apart id id' b b' L L' hb hb' hne hL hL' hv hv'
 ·have:¬ id < N:=by simp only at hi;omega
  simp only [cutφ,if_neg this]
 ·simp only [cutφ,if_pos (show id < N by omega)]
  exact R.agree id hi
 ·obtain ⟨e1,e2⟩:=r.env t v hv
  exact ⟨e1,rep (h3.get t v hv) e2⟩
theorem sub_catD {G:Gh} {st:St} {env:List (Nat×AV)} {bx':List (Nat×Option Box)} {N:Nat} (i j:Nat) {sz:Nat} {E1 E2 E1' E2' F:List AV} {sl1 sl2 sl:Bool} (hi0:G.nx0<=i) (hij:i≠j) (hi:box? st.bx i = some ⟨E1,sz,sl1,false⟩) (hj:box? st.bx j = some ⟨E2,sz,sl2,false⟩)
  (c1:CatX i E1.length j E1 E1') (c2:CatX i E1.length j E2 E2') (hE:CatE i E1.length j st.env env) (hB:CatB i E1.length j st.bx bx') (hF:E1'++E2' = F) (hsl:(sl1 || sl2) = sl)
  (h3:LowE N env) (h4:LowBs N ((i,some ⟨F,sz,sl,false⟩)::bx')) (h6:(((i,some (Box.mk F sz sl false))::bx').map (·.1)).all (λ i=>decide (i < N)) = true) (h5:G.nx0<=N) :
  Sub G st ⟨env,(i,some ⟨F,sz,sl,false⟩)::bx',N⟩ :=
 (sub_cat i j hi0 hij hi hj c1 c2 hE hB hF hsl).trans (sub_low h3 h4 h6 h5)
theorem lowX_app {N:Nat} {E F:List AV} (h:LowX N E) (k:LowX N F):LowX N (E++F):=λ x hx=>by
 rcases List.mem_append.1 hx with q|q
 ·exact h x q
 ·exact k x q
theorem renEL_app {ρ:Nat->Nat}:∀ {E E' F F':List AV},RenEL ρ E E'->RenEL ρ F F'->RenEL ρ (E++F) (E'++F')
 | [],[],_,_,_,k=>k
 | _::_,_::_,_,_,h,k=>⟨h.1,renEL_app h.2 k⟩
 | [],_::_,_,_,h,_=>h.elim
 | _::_,[],_,_,h,_=>h.elim
theorem renEL_pure {ρ:Nat->Nat}:∀ {E:List AV},Uf E->RenEL ρ E E
 | [],_=>trivial
 | x::l,h=>⟨renL_refl (h x (by simp)).1,renEL_pure λ y hy=>h y (by simp [hy])⟩
theorem outsN_snoc (r off:Nat) (ns:List Nat) (n:Nat):Yb r off (ns++[n]) = Yb r off ns++[.sl r (off + ns.sum) n n]:=outsN_append r off ns [n]
theorem outsN_catS {r j M off n:Nat} {ns:List Nat} (h:M = off + ns.sum):CatX r M j (Yb r off ns++[.sl j 0 n n]) (Yb r off (ns++[n])):=by
 rw [outsN_snoc]
 exact catX_app (outsN_cat r off ns (by omega)) (catX_cons ⟨.sl2 _ _ _ _ (by omega),trivial⟩ catX_nil)
theorem outsN_catZ {r j M off n:Nat} {ns:List Nat} {Z:List AV} (h:M = off + ns.sum) (hZ:Uf Z):CatX r M j (Yb r off ns++.sl j 0 n n::Z) (Yb r off (ns++[n])++Z):=by
 rw [outsN_snoc,List.append_assoc]
 exact catX_app (outsN_cat r off ns (by omega)) (catX_cons ⟨.sl2 _ _ _ _ (by omega),trivial⟩ (catX_pure hZ))
instance (r off:Nat) (ns:List Nat):OwnEC (Yb r off ns):=⟨outsN_own r off ns⟩
theorem view_rowsR {bx:List (Nat×Option Box)} {o r len cap:Nat} {rows:List (List UInt8)} {sl ro sl' ro':Bool} (ho:box? bx o = some ⟨Yb r 0 (rows.map List.length),1,sl,ro⟩) (hr:box? bx r = some ⟨bA rows.flatten,1,sl',ro'⟩) (hl:Mlen (len = rows.length)) :
  View bx (.sl o 0 len cap) (sl1 (rows.map λ w=>sl1 (bA w))):=view_rowsA ho hr rfl rfl hl.out
end Go.Av
namespace Go.Av
def laidN {α:Type} (w1 w2:α->Nat) (f:Nat->Nat->α->AV):Nat->Nat->List α->List AV
 | _,_,[]=>[]
 | a,b,x::l=>f a b x::laidN w1 w2 f (a + w1 x) (b + w2 x) l
section
variable {α : Type} {w1 w2 : α → Nat} {f : Nat → Nat → α → AV}
theorem laidN_length:∀ (a b:Nat) (l:List α),(laidN w1 w2 f a b l).length = l.length
 | _,_,[]=>rfl
 | a,b,x::l=>by simp [laidN,laidN_length (a + w1 x) (b + w2 x) l]
theorem laidN_append:∀ (a b:Nat) (l m:List α),laidN w1 w2 f a b (l++m) = laidN w1 w2 f a b l++laidN w1 w2 f (a + (l.map w1).sum) (b + (l.map w2).sum) m
 | a,b,[],m=>by simp [laidN]
 | a,b,x::l,m=>by simp [laidN,laidN_append (a + w1 x) (b + w2 x) l m,Nat.add_assoc]
theorem laidN_snoc (a b:Nat) (l:List α) (x:α):laidN w1 w2 f a b (l++[x]) = laidN w1 w2 f a b l++[f (a + (l.map w1).sum) (b + (l.map w2).sum) x]:=laidN_append a b l [x]
theorem laidN_get:∀ (a b:Nat) (l:List α) (i:Nat) (y:AV),(laidN w1 w2 f a b l)[i]? = some y->∃ x,l[i]? = some x/\y = f (a + ((l.take i).map w1).sum) (b + ((l.take i).map w2).sum) x
 | _,_,[],i,y,h=>by simp [laidN] at h
 | a,b,x::l,0,y,h=>by simp [laidN] at h;exact ⟨x,rfl,by simp [<-h]⟩
 | a,b,x::l,i + 1,y,h=>by
   obtain ⟨z,h1,h2⟩:=laidN_get (a + w1 x) (b + w2 x) l i y (by simpa [laidN] using h)
   exact ⟨z,by simpa using h1,by rw [h2];simp [Nat.add_assoc]⟩
theorem sum_part (w:α->Nat) {l:List α} {i:Nat} {x:α} (h:l[i]? = some x):((l.take i).map w).sum + w x<=(l.map w).sum:=by
 have h1:(l.take (i + 1)).map w = (l.take i).map w++[w x]:=by rw [List.take_add_one,h];simp
 have h3:(l.map w).sum = ((l.take (i + 1)).map w).sum + ((l.drop (i + 1)).map w).sum:=by rw [<-List.sum_append,<-List.map_append,List.take_append_drop]
 rw [h3,h1]
 simp
theorem laidN_mem {a b:Nat} {l:List α} {y:AV} (h:y∈laidN w1 w2 f a b l):∃ x c d,x∈l/\y = f c d x/\a<=c/\c + w1 x<=a + (l.map w1).sum/\b<=d/\d + w2 x<=b + (l.map w2).sum:=by
 obtain ⟨i,hi⟩:=List.mem_iff_getElem?.1 h
 obtain ⟨x,h1,h2⟩:=laidN_get a b l i y hi
 have s1:=sum_part w1 h1
 have s2:=sum_part w2 h1
 exact ⟨x,_,_,List.mem_of_getElem? h1,h2,by omega,by omega,by omega,by omega⟩
theorem laidN_cat {i m j A B:Nat} (h:∀ x c d,c + w1 x<=A->d + w2 x<=B->CatL i m j (f c d x).cells (f c d x).cells):∀ (a b:Nat) (l:List α),a + (l.map w1).sum<=A->b + (l.map w2).sum<=B->CatX i m j (laidN w1 w2 f a b l) (laidN w1 w2 f a b l)
 | _,_,[],_,_=>catX_nil
 | a,b,x::l,h1,h2=>by
   simp only [List.map_cons,List.sum_cons] at h1 h2
   exact catX_cons (h x a b (by omega) (by omega)) (laidN_cat h (a + w1 x) (b + w2 x) l (by omega) (by omega))
theorem laidN_ren {ρ:Nat->Nat} {f':Nat->Nat->α->AV} (h:∀ a b x,RenL ρ (f a b x).cells (f' a b x).cells):∀ (a b:Nat) (l:List α),RenEL ρ (laidN w1 w2 f a b l) (laidN w1 w2 f' a b l)
 | _,_,[]=>trivial
 | a,b,x::l=>⟨h a b x,laidN_ren h (a + w1 x) (b + w2 x) l⟩
theorem laidN_low {N:Nat} (h:∀ a b x,LowL N (f a b x).cells) (a b:Nat) (l:List α):LowX N (laidN w1 w2 f a b l):=λ y hy z hz=>by
 obtain ⟨x,c,d,_,rfl,_⟩:=laidN_mem hy
 exact (h c d x).mem z hz
theorem laidN_own (h:∀ a b x,OwnL (f a b x).cells) (a b:Nat) (l:List α):OwnE (laidN w1 w2 f a b l):=λ y hy z hz=>by
 obtain ⟨x,c,d,_,rfl,_⟩:=laidN_mem hy
 exact (h c d x).mem z hz
theorem view_laid {bx:List (Nat×Option Box)} {o off' n cap st:Nat} {sl ro:Bool} {l:List α} {E:List AV} (g:α->AV) (ho:box? bx o = some ⟨E,st,sl,ro⟩) (a0 b0:Nat) (hE:(E.drop off').take n = laidN w1 w2 f a0 b0 l) (hfit:off' + n<=E.length) (hl:n = l.length) (hk:∀ x,∀ d∈(g x).cells,d.cellOk = true)
  (hv:∀ (i:Nat) (x:α),l[i]? = some x->ViewL bx (f (a0 + ((l.take i).map w1).sum) (b0 + ((l.take i).map w2).sum) x).cells (g x).cells):View bx (.sl o off' n cap) (.ls st true false (l.map g)):=by
 have hget:∀ (i:Nat) (x:AV),i < n->E[off' + i]? = some x->(laidN w1 w2 f a0 b0 l)[i]? = some x:=by
  intro i x hi hx
  rw [<-hE,List.getElem?_take_of_lt hi,List.getElem?_drop]
  exact hx
 have both:∀ (i:Nat) (x y:AV),E[off' + i]? = some x->(l.map g)[i]? = some y->ViewL bx x.cells y.cells/\∀ d∈y.cells,d.cellOk = true:=by
  intro i x y hx hy
  have hi:i < n:=by rw [hl];have:=(List.getElem?_eq_some_iff.1 hy).1;simpa using this
  obtain ⟨z,hz,rfl⟩:=laidN_get _ _ _ _ _ (hget i x hi hx)
  rw [List.getElem?_map,hz] at hy
  obtain rfl:=Option.some.inj hy
  exact ⟨hv i z hz,hk z⟩
 refine View.sl (b:=⟨E,st,sl,ro⟩) ho hfit (by rw [List.length_map];exact hl.symm) (λ i x y hx hy=>?_) (λ i x y j c d hx hy hc hd=>?_)
 ·obtain ⟨h1,h2⟩:=both i x y hx hy
  exact ⟨h1.get.1,h2⟩
 ·exact (both i x y hx hy).1.get.2 j c d hc hd
end
theorem part_part {α:Type} {D X:List α} {o w c n:Nat} (h:(D.drop o).take w = X) (hc:c + n<=w):(D.drop (o + c)).take n = (X.drop c).take n:=by
 subst h
 rw [List.drop_take,List.drop_drop,List.take_take,Nat.min_eq_left (by omega)]
theorem view_part {bx:List (Nat×Option Box)} {r off n cap:Nat} {D w:List UInt8} {sl ro:Bool} (hr:box? bx r = some ⟨bA D,1,sl,ro⟩) (hfit:off + n<=D.length) (h:(D.drop off).take n = w):View bx (.sl r off n cap) (sl1 (bA w)):=by
 subst h
 refine view_sl (b:=⟨bA D,1,sl,ro⟩) hr (by rw [Q1];omega) (Yi _) ?_
 simp only [bA]
 rw [<-List.map_drop,<-List.map_take]
theorem view_rowsP {bx:List (Nat×Option Box)} {o r off' len cap a0:Nat} {rows:List (List UInt8)} {sl ro sl' ro':Bool} {E:List AV} {D:List UInt8} (ho:box? bx o = some ⟨E,1,sl,ro⟩) (hE:(E.drop off').take len = Yb r a0 (rows.map List.length)) (hfit:off' + len<=E.length)
  (hr:box? bx r = some ⟨bA D,1,sl',ro'⟩) (hD:(D.drop a0).take rows.flatten.length = rows.flatten) (hfitD:a0 + rows.flatten.length<=D.length) (hl:len = rows.length):View bx (.sl o off' len cap) (sl1 (rows.map λ w=>sl1 (bA w))):=by
 have hget:∀ (i:Nat) (x:AV),i < len->E[off' + i]? = some x->(Yb r a0 (rows.map List.length))[i]? = some x:=by
  intro i x hi hx
  rw [<-hE,List.getElem?_take_of_lt hi,List.getElem?_drop]
  exact hx
 refine View.sl (b:=⟨E,1,sl,ro⟩) ho hfit (by rw [List.length_map];exact hl.symm) (λ i x y hx hy=>?_) (λ i x y j c d hx hy hc hd=>?_)
 ·have hi:i < len:=by rw [hl];have:=(List.getElem?_eq_some_iff.1 hy).1;simpa using this
  obtain ⟨n,_,rfl⟩:=outsN_get _ _ _ _ _ (hget i x hi hx)
  rw [List.getElem?_map] at hy
  obtain ⟨w,_,rfl⟩:=Option.map_eq_some_iff.1 hy
  exact ⟨rfl,λ d hd=>by simp only [AV.cells,List.mem_singleton] at hd;subst hd;rfl⟩
 ·have hi:i < len:=by rw [hl];have:=(List.getElem?_eq_some_iff.1 hy).1;simpa using this
  obtain ⟨n,hn,rfl⟩:=outsN_get _ _ _ _ _ (hget i x hi hx)
  rw [List.getElem?_map] at hy
  obtain ⟨w,hw,rfl⟩:=Option.map_eq_some_iff.1 hy
  rw [List.getElem?_map,hw] at hn
  obtain rfl:=Option.some.inj hn
  cases j with
  | succ j=>simp [AV.cells] at hc
  | zero =>
    simp only [AV.cells,List.getElem?_cons_zero,Option.some.injEq] at hc hd
    subst hc hd
    have hfit2:=flat_fit rows hw
    exact view_part hr (by omega) (by rw [part_part hD hfit2,flat_part rows i w hw])
end Go.Av
namespace Go.Av
section
variable {P : Program} {f : FuncId} {bs : List (Nat × Option Box)} {nx : Nat} {xs ys : List AV}
end
section
variable {P : Program} {ty : TypeId → Option TI} {n : Nat} {ops l : List Oper} {K : St → Prop} {tp : TypeId} {pos : String} {aft : Array Edge} {env : List (Nat × AV)} {bx : List (Nat × Option Box)} {nx : Nat} {d : Tmp} {f : FuncId} {args : List Operand} {ats : Array TypeId} {xs ys : List AV}
end
end Go.Av
namespace Go.Av
def Spent (k U:Int) (m:Nat):AV->List (Nat×Option Box)->Nat->Prop:=λ r b n =>
 (∃ k':Int,r = .int .i64 k'/\k<=k'/\k'<=U/\decide (k' < 0) = false)/\b = []/\n = m
section
variable {P : Program} {f : FuncId} {args args' : List AV} {bs bs' : List (Nat × Option Box)} {nx : Nat}
theorem CR.spend {R:AV->List (Nat×Option Box)->Nat->Prop} {k U:Int} (h:CR P f args bs nx R) (hk:∀ r b n,R r b n->∃ k':Int,r = .int .i64 k'/\k<=k'/\k'<=U) (h0:0<=k):CR P f args bs nx (Spent k U nx):=by
 refine ⟨h.1,λ G φ w vs e1 e2 e3 hrel hA=>(h.2 G φ w vs e1 e2 e3 hrel hA).mono ?_⟩
 rintro e w' ⟨v,r,b,n,φ',rfl,hR,hrel',hrep⟩
 obtain ⟨k',rfl,h1,h2⟩:=hk r b n hR
 subst e3
 refine ⟨v,_,[],G.nx0,cutφ G.nx0 φ',rfl,⟨⟨k',rfl,h1,h2,decide_eq_false (by omega)⟩,rfl,rfl⟩,⟨hrel'.os,hrel'.tape,hrel'.output,hrel'.size,hrel'.frame,hrel'.kept,λ b o hk=>⟨(hrel'.okk b o hk).1,λ id box L hb=>(by cases hb)⟩,λ id b hb=>(by cases hb),λ id id' b b' L L' hb=>(by cases hb),λ id hid=>?_,λ id hid=>?_,Nat.le_refl _⟩,?_⟩
 ·simp only [cutφ];rw [if_neg (by omega)]
 ·simp only [cutφ,if_pos hid];exact hrel'.agree id hid
 ·cases hrep;exact .int _ _
theorem CR.spentI {k U:Int} {m:Nat} (h:CR P f args bs m (Spent k U m)) (ids:List Nat) (hm:ids.length = m) (hnd:ids.Nodup) (N:Nat) (hlt:∀ x∈ids,x < N)
  (ha:RenL (nameOf ids N) args args') (hb:RenBs (nameOf ids N) bs bs'):CR P f args' bs' N (Spent k U N):=by
 subst hm
 refine CR.to ids hnd hlt h ha hb (λ r1 b1 n1 ⟨⟨k',e1,e2,e3,e4⟩,e5,e6⟩=>?_)
 subst e1 e5 e6
 exact ⟨Nat.le_refl _,_,[],.pure (Qb _ _),trivial,⟨⟨k',rfl,e2,e3,e4⟩,rfl,by omega⟩⟩
end
section
variable {P : Program} {ty : TypeId → Option TI} {n : Nat} {ops l : List Oper} {K : St → Prop} {tp : TypeId} {pos : String} {aft : Array Edge} {env : List (Nat × AV)} {bx : List (Nat × Option Box)} {nx : Nat} {d : Tmp} {f : FuncId} {args : List Operand} {ats : Array TypeId} {xs : List AV}
theorem S_callX (ids:List Nat) {bs:List (Nat×Option Box)} {k U:Int} (hg:Gts env args xs) (hb:Y6 bx ids = bs) (hc:CR P f xs bs nx (Spent k U nx)) (hd:Je n (some d) = true)
  (h:∀ k':Int,k<=k'->k'<=U->decide (k' < 0) = false->WX false P ty n ops l ⟨(d,.int .i64 k')::env,(ids.map λ i=>(i,none))++bx,nx⟩ K) :
  WX false P ty n ops (⟨some d,.call ⟨.value (.func f),args.toArray,ats⟩,tp,pos,aft,none⟩::l) ⟨env,bx,nx⟩ K :=
 S_callB ids hg hb hc (λ r b n ⟨_,e2,_⟩ id b' hl=>by subst e2;cases hl) hd (λ r b n ⟨⟨k',e1,e2,e3,e4⟩,e5,e6⟩=>by subst e1 e5 e6;exact h k' e2 e3 e4)
end
theorem E_Ex {ty:TypeId->Option TI} {rs:List ResultVar} {s:St} {xs:List AV} {R:AV->List (Nat×Option Box)->Nat->Prop} (h1:ResL ty s rs xs) (hR:R (oneOrTup xs) s.bx s.nx):retR ty rs R .ret s:=by
 obtain ⟨p,h2,h3⟩:=h1.list
 exact E_R h2 h3 hR
end Go.Av
namespace Go.Av
section
variable {P : Program} {f : FuncId} {xs : List AV} {bs : List (Nat × Option Box)} {nx : Nat}
end
end Go.Av
namespace Go.Av
section
variable {P : Program} {ty : TypeId → Option TI} {G : Gh} {Q : Exit → St → Prop}
end
def WT (P:Program) (ty:TypeId->Option TI) (n:Nat) (bx0:List (Nat×Option Box)) (lq:Nat->Bool):Nat->List Oper->St->(St->Prop)->Prop
 | _,[],st,K=>K st
 | k,o::l,st,K=>Je n o.dst = true/\if lq k = true then
   (Stay bx0 st.bx->∃ r bx' nx',AStep P o st.get st.bx st.nx r bx' nx'/\Stay bx0 bx'/\WT P ty n bx0 lq (k + 1) l ((St.mk st.env bx' nx').set o.dst r) K)
   else ∃ v,QV P ty bx0 st.get o.op v/\WT P ty n bx0 lq (k + 1) l (st.set o.dst v) K
section
variable {P : Program} {ty : TypeId → Option TI} {n : Nat} {ops : List Oper} {m : Nat} {lq : Nat → Bool} {e0 : List (Nat × AV)} {bx0 : List (Nat × Option Box)}
def drawOrd (ops:List Oper) (m:Nat) (lq:Nat->Bool):Bool :=
 (List.range m).all λ j=>match ops[j]? with
  | none=>true
  | some oj=>oj.guard.isNone && (!lq j || (List.range j).all (λ i=>!lq i || reach ops ops.length j i))
end
end Go.Av
