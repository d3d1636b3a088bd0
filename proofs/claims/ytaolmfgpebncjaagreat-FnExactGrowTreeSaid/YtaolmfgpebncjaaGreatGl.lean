/- A small logic for code over pictures of values and boxes: part 12. -/
import Derived.Test.YtaolmfgpebncjaaGreatGk
set_option linter.unusedSimpArgs false
set_option linter.unusedVariables false
namespace Go.Av
theorem wp_keeps {P:Program} {o:Oper} {a:Act} {w:World} {K:Act->World->Prop} {Q:Exit->Act->World->Prop} {t:Tmp} (ht:o.dst≠some t) (h:o.wp P a w K Q) :
  o.wp P a w (λ a' w'=>K a' w'/\a'.tmps.getD t Go.undef = a.tmps.getD t Go.undef) Q:=by
 have hp:∀ (a1:Act) (v:Value),a1.tmps = a.tmps->(a1.put o.dst v).tmps.getD t Go.undef = a.tmps.getD t Go.undef:=by
  intro a1 v e
  cases hd:o.dst with
  | none=>simp [Act.put,e]
  | some t' =>
    have hne:t'≠t:=λ k=>ht (by rw [hd,k])
    simp only [Act.put,Array.getD_eq_getD_getElem?,Array.getElem?_setIfInBounds,if_neg hne,e]
 unfold Oper.wp at *
 generalize (execOp a.eval o).run P w = r at *
 cases r with
 | ok n w' =>
   cases n<;>simp only [Oper.upon] at h ⊢ <;>
    first
     | exact ⟨h,hp _ _ rfl⟩
     | exact Calls.mono h (λ e w'' he=>by cases e<;>first|exact ⟨he,hp _ _ rfl⟩|exact he)
     | exact Rows.mono h (λ _ _ he=>⟨he,hp _ _ rfl⟩)
 | halt x w'=>cases x<;>simp only [Oper.upon] at h ⊢<;>exact h
theorem wp_out {P:Program} {o:Oper} {a:Act} {w:World} {K:Act->World->Prop} {Q Q':Exit->Act->World->Prop} (hQ:∀ e a w,Q e a w->Q' e a w) (h:o.wp P a w K Q):o.wp P a w K Q':=by
 have hl:LetsOut Q->LetsOut Q':=λ ⟨a,w,h⟩=>⟨a,w,hQ _ _ _ h⟩
 unfold Oper.wp at *
 generalize (execOp a.eval o).run P w = r at *
 cases r with
 | ok n w' =>
   cases n<;>simp only [Oper.upon] at h ⊢ <;>
    first
     | exact Calls.mono h (λ e w'' he=>by cases e<;>first|exact he|exact hQ _ _ _ he|exact hl he)
     | exact h
 | halt x w'=>cases x<;>simp only [Oper.upon] at h ⊢<;>first|exact hQ _ _ _ h|exact h
theorem EV_agreeS {ops:List Oper} {vs vs':Nat->AV} {e0:List (Nat×AV)} {S S':Nat->Bool} {t:Nat}:∀ n,(∀ k,k < n->(ops[k]?).bind (·.dst) = some t->S k = S' k/\(S k = true->vs k = vs' k))->look (EV ops vs e0 S n) t = look (EV ops vs' e0 S' n) t
 | 0,_=>rfl
 | n + 1,h=>by
   have ih:=EV_agreeS (ops:=ops) (vs:=vs) (vs':=vs') (e0:=e0) (t:=t) n (λ k hk=>h k (by omega))
   simp only [EV]
   cases hd:(ops[n]?).bind (·.dst) with
   | none=>simp only [ite_self];exact ih
   | some t' =>
     by_cases e:t' = t
     ·subst e
      obtain ⟨h1,h2⟩:=h n (by omega) hd
      rw [<-h1]
      cases hS:S n with
      | false=>simpa using ih
      | true=>simp [look,h2 hS]
     ·have key:∀ (b:Bool) (v:AV) (E:List (Nat×AV)),look (if b = true then (t',v)::E else E) t = look E t:=by
       intro b v E
       cases b<;>simp [look,e]
      rw [key,key]
      exact ih
section
variable {P : Program} {ty : TypeId → Option TI} {ops : List Oper} {m : Nat} {S : Nat → Bool} {vs vs' : Nat → AV} {e0 : List (Nat × AV)} {j : Nat} {o : Oper}
theorem later_apart (hD:DrawOk ops m) (h2:ops[j]? = some o) (h1:S j = false) (hC:Closed ops S):∀ k,j < k->k < ops.length->S k = true->∀ ok,ops[k]? = some ok->o.apart ops.toArray ok = true:=by
 intro k hk hkl hSk ok hok
 rcases hD.edge k ok j o hok hk h2 with h|⟨e,he,hb,rfl⟩
 ·exact h
 ·have:=hC k ok hok hSk e he hb
  rw [h1] at this
  cases this
theorem sees_text (hD:DrawOk ops m) (hjm:j < m) (hm:m<=ops.length) (h2:ops[j]? = some o) (h1:S j = false) (h3:∀ e∈o.after,Region.binds .any e = true->S e.on = true) (hC:Closed ops S)
  (hv:∀ k,k < m->S k = true->vs' k = vs k∨∀ e∈o.after,Region.binds .any e = true->e.on≠k) :
  ∀ t,t∈o.looksAt ops.toArray->look (EV ops vs e0 (λ _=>true) j) t = look (EV ops vs' e0 S m) t:=by
 intro t ht
 have e1:EV ops vs e0 (λ _=>true) j = EV ops vs e0 (λ i=>decide (i < j)) m:=by
  rw [EV_stop (S:=λ i=>decide (i < j)) (k:=j) m (by omega) (λ i h1 h2=>by simp;omega)]
  exact EV_congr j λ k hk=>⟨rfl,by simp [hk]⟩
 rw [e1]
 refine EV_agreeS m λ k hk hw=>?_
 have hkl:k < ops.length:=by omega
 have hok:ops[k]? = some ops[k]:=by simp
 rw [hok] at hw
 simp only [Option.bind_some] at hw
 rcases Nat.lt_trichotomy k j with h|h|h
 ·rcases hD.edge j o k _ h2 h hok with hap|⟨e,he,hb,rfl⟩
  ·exact absurd ht ((Oper.apart_spec hap).1 t hw)
  ·have hS:=h3 e he hb
   rw [hS]
   refine ⟨by simp [h],λ _=>?_⟩
   rcases hv e.on hk hS with q|q
   ·exact q.symm
   ·exact absurd rfl (q e he hb)
 ·subst h
  rw [h1]
  have e:decide (k < k) = false:=by simp
  rw [e]
  exact ⟨rfl,λ h=>by cases h⟩
 ·have e:decide (k < j) = false:=by simp;omega
  rw [e]
  cases hSk:S k with
  | false=>exact ⟨rfl,λ h=>by cases h⟩
  | true=>exact absurd ht ((Oper.apart_spec (later_apart hD h2 h1 hC k h hkl hSk _ hok)).2.2 t hw)
theorem after_text {G':Gh} (hD:DrawOk ops m) (hjm:j < m) (hm:m<=ops.length) (h2:ops[j]? = some o) (h1:S j = false) (hC:Closed ops S) {B:List (Nat×Option Box)} {N:Nat} {φ:Nat->Option Loc} {a:Act} {w:World}
  (r:RelA G' ((St.mk (EV ops vs' e0 S m) B N).set o.dst (vs' j)) φ a w):RelA G' ⟨EV ops vs' e0 (λ k=>if k = j then true else S k) m,B,N⟩ φ a w:=by
 refine r.weak ⟨λ t v h=>?_,?_,?_⟩
 ·have hbind:(ops[j]?).bind (·.dst) = o.dst:=by rw [h2];rfl
  cases hd:o.dst with
  | none =>
    simp only [St.set]
    rw [<-h]
    refine EV_agree m λ k hk hw=>?_
    by_cases e:k = j
    ·subst e;rw [hbind,hd] at hw;cases hw
    ·simp only [if_neg e]
  | some t' =>
    simp only [St.set,look]
    by_cases e:t' = t
    ·subst e
     simp only [if_true]
     rw [<-h]
     refine (EV_last (by simp) (by rw [hbind,hd]) m hjm λ k hk hkm hw=>?_).symm
     simp only [if_neg (show ¬ k = j by omega)]
     cases hSk:S k with
     | false=>rfl
     | true =>
       have hok:ops[k]? = some (ops[k]'(by omega)):=by simp
       rw [hok] at hw
       exact absurd hw ((Oper.apart_spec (later_apart hD h2 h1 hC k hk (by omega) hSk _ hok)).2.1 t' hd)
    ·rw [if_neg e,<-h]
     refine EV_agree m λ k hk hw=>?_
     by_cases e':k = j
     ·subst e'
      rw [hbind,hd] at hw
      exact absurd (Option.some.inj hw) e
     ·simp only [if_neg e']
 ·cases o.dst<;>exact Nat.le_refl _
 ·intro id b' hb
  refine ⟨b',?_,rfl,rfl,rfl,λ h=>h⟩
  cases o.dst<;>exact hb
theorem get_text {env:List (Nat×AV)} {B:List (Nat×Option Box)} {N:Nat} {env':List (Nat×AV)} (h:∀ t,t∈o.looksAt ops.toArray->look env t = look env' t):∀ x∈o.op.operands,St.get ⟨env,[],0⟩ x = St.get ⟨env',B,N⟩ x:=by
 intro x hx
 cases x with
 | tmp t =>
   simp only [St.get]
   rw [h t (List.mem_append_left _ (List.mem_filterMap.2 ⟨.tmp t,by simpa using hx,rfl⟩))]
 | _=>rfl
theorem core_quiet {G':Gh} {Q:Exit->Act->World->Prop} (hty:TyOk P ty) (hD:DrawOk ops m) (hjm:j < m) (hm:m<=ops.length) (h2:ops[j]? = some o) (h1:S j = false) (h3:∀ e∈o.after,Region.binds .any e = true->S e.on = true) (hC:Closed ops S)
  (hv:∀ k,k < m->S k = true->vs' k = vs k∨∀ e∈o.after,Region.binds .any e = true->e.on≠k) (hvj:vs' j = vs j) (hd:Je G'.n o.dst = true) {B:List (Nat×Option Box)} {N:Nat}
  (hq:QV P ty B (St.get ⟨EV ops vs e0 (λ _=>true) j,[],0⟩) o.op (vs j)) {K:Act->World->Prop}
  (hK:∀ φ a w,RelA G' ⟨EV ops vs' e0 (λ k=>if k = j then true else S k) m,B,N⟩ φ a w->K a w) :
  ∀ φ a w,RelA G' ⟨EV ops vs' e0 S m,B,N⟩ φ a w->o.wp P a w K Q:=by
 intro φ a w r
 have hv':QV P ty B (St.get ⟨EV ops vs' e0 S m,B,N⟩) o.op (vs j):=QV_congr (get_text (sees_text hD hjm hm h2 h1 h3 hC hv)) hq
 refine wp_out ?_ (QV_ok (Q:=λ _ _=>False) (st:=⟨EV ops vs' e0 S m,B,N⟩) hty hv' hd (λ φ a w r=>hK φ a w (after_text hD hjm hm h2 h1 hC (by rw [hvj];exact r))) φ a w r)
 rintro e a w ⟨_,_,hf,_⟩
 exact hf.elim
theorem core_loud {G':Gh} {Q:Exit->Act->World->Prop} (hD:DrawOk ops m) (hjm:j < m) (hm:m<=ops.length) (h2:ops[j]? = some o) (h1:S j = false) (h3:∀ e∈o.after,Region.binds .any e = true->S e.on = true) (hC:Closed ops S)
  (hv:∀ k,k < m->S k = true->vs' k = vs k∨∀ e∈o.after,Region.binds .any e = true->e.on≠k) (hvj:vs' j = vs j) (hd:Je G'.n o.dst = true) {B B':List (Nat×Option Box)} {N N':Nat}
  (hq:AStep P o (St.get ⟨EV ops vs e0 (λ _=>true) j,[],0⟩) B N (vs j) B' N') {K:Act->World->Prop}
  (hK:∀ φ a w,RelA G' ⟨EV ops vs' e0 (λ k=>if k = j then true else S k) m,B',N'⟩ φ a w->K a w) :
  ∀ φ a w,RelA G' ⟨EV ops vs' e0 S m,B,N⟩ φ a w->o.wp P a w K Q:=by
 intro φ a w r
 have hv':AStep P o (St.get ⟨EV ops vs' e0 S m,B,N⟩) B N (vs j) B' N':=AStep.congr (get_text (sees_text hD hjm hm h2 h1 h3 hC hv)) hq
 refine wp_out ?_ (op_step (Q:=λ _ _=>False) (st:=⟨EV ops vs' e0 S m,B,N⟩) hv' hd (λ φ a w r=>hK φ a w (after_text hD hjm hm h2 h1 hC (by rw [hvj];exact r))) φ a w r)
 rintro e a w ⟨_,_,hf,_⟩
 exact hf.elim
end
theorem any_sim {P:Program} {ty:TypeId->Option TI} {G:Gh} {Q:Exit->St->Prop} (hty:TyOk P ty) {ops:List Oper} {m:Nat} (hD:DrawOk ops m) (hgd:∀ (j:Nat) (o:Oper),j < m->ops[j]? = some o->o.guard = none) (hm:m<=ops.length)
  {Inv:(Nat->Bool)->Act->World->Prop}
  (hstep:∀ (S:Nat->Bool) (j:Nat) (o:Oper) (a:Act) (w:World),j < m->ops[j]? = some o->S j = false->(∀ e∈o.after,Region.binds .any e = true->S e.on = true)->Closed ops S->(∀ i,m<=i->i < ops.length->S i = false)->Inv S a w ->
   o.wp P a w (Inv λ k=>if k = j then true else S k) (QE G Q))
  {st:St} {K:St->Prop} (hfin:∀ (S:Nat->Bool) (a:Act) (w:World),(∀ i,i < m->S i = true)->Closed ops S->Inv S a w->∃ φ,RelA G st φ a w) (hT:WX false P ty G.n ops (ops.drop m) st K) (hK:∀ s,K s->Q .normal s) :
  ∀ (fuel:Nat) (listed:Array Bool) (a:Act) (w:World),listed.size = ops.length->cnt (got listed) ops.length = fuel->Closed ops (got listed)->(∀ i,m<=i->i < ops.length->got listed i = false) ->
    Inv (got listed) a w->wpAny P .any ops.toArray (QE G Q) fuel listed a w:=by
 have tail:∀ (fuel:Nat) (listed:Array Bool) (a:Act) (w:World),listed.size = ops.length->cnt (got listed) ops.length = fuel->Closed ops (got listed)->(∀ i,m<=i->i < ops.length->got listed i = false)->(∀ i,i < m->got listed i = true) ->
   Inv (got listed) a w->wpAny P .any ops.toArray (QE G Q) fuel listed a w:=by
  intro fuel listed a w hsz hc hC hM hall r
  obtain ⟨φ,r⟩:=hfin _ a w hall hC r
  have hS:∀ i,i < ops.length->got listed i = decide (i < m):=by
   intro i hi
   by_cases e:i < m
   ·rw [hall i e];simp [e]
   ·rw [hM i (by omega) hi];simp [e]
  have hlen:(ops.drop m).length = fuel:=by
   have key:∀ n,m<=n->n<=ops.length->cnt (got listed) n = n - m:=by
    intro n
    induction n with
    | zero=>intro _ _;simp [cnt]
    | succ n ih =>
      intro h1 h2
      by_cases e:m = n + 1
      ·rw [cnt_zero _ (λ i hi=>hall i (by omega))];omega
      ·simp only [cnt,ih (by omega) (by omega),hM n (by omega) (by omega)]
       simp
       omega
   rw [key _ hm (Nat.le_refl _)] at hc
   simpa using hc
  have:=any_tail (Q:=Q) hty hD (ops.drop m) m _ K listed φ a w rfl (Nat.le_refl _) hsz hS hT hK r
  rw [hlen] at this
  exact this
 intro fuel
 induction fuel with
 | zero =>
   intro listed a w hsz hc hC hM r
   refine tail 0 listed a w hsz hc hC hM (λ i hi=>?_) r
   cases hS:got listed i with
   | true=>rfl
   | false=>have:=cnt_all (S:=got listed) ⟨i,(by omega:i < ops.length),hS⟩;omega
 | succ fuel ih =>
   intro listed a w hsz hc hC hM r
   by_cases hall:∀ i,i < m->got listed i = true
   ·exact tail _ listed a w hsz hc hC hM hall r
   ·have hex:∃ i,i < m/\got listed i = false:=by
     refine Classical.byContradiction λ hn=>hall λ i hi=>?_
     cases hS:got listed i with
     | true=>rfl
     | false=>exact absurd ⟨i,hi,hS⟩ hn
    refine ⟨λ h0=>?_,λ j hj=>?_⟩
    ·obtain ⟨j,h1,h2,h3⟩:=cnt_pos (S:=got listed) ops.length (by omega)
     have ho:ops[j]? = some ops[j]:=by simp
     have:j∈Region.ready .any ops.toArray listed:=(mem_ready' hsz).2 ⟨h2,_,ho,λ e he hbd=>h3 _ (hD.back j _ ho e he hbd)⟩
     rw [h0] at this
     cases this
    ·obtain ⟨h1,o,h2,h3⟩:=(mem_ready' hsz).1 hj
     have hlt:j < ops.length:=(List.getElem?_eq_some_iff.1 h2).1
     have hjm:j < m:=by
      rcases Nat.lt_or_ge j m with h|h
      ·exact h
      ·obtain ⟨i,hi,hSi⟩:=hex
       have:=reach_closed hC _ j i o h2 h3 (hD.tail j o i h2 h (by omega))
       rw [hSi] at this
       cases this
     have hg:got (listed.setIfInBounds j true) = λ k=>if k = j then true else got listed k:=funext (got_set (by omega))
     have hA:ops.toArray[j]? = some o:=by simpa using h2
     refine OP_none hA (hgd j o hjm h2) (Oper.wp_mono (λ a w r=>?_) (hstep _ j o a w hjm h2 h1 h3 hC hM r))
     refine ih _ a w (by simpa using hsz) ?_ ?_ ?_ (by rw [hg];exact r)
     ·have:=cnt_set (S:=got listed) (S':=got (listed.setIfInBounds j true)) h1 (by rw [hg];simp) (λ k hk=>by rw [hg];simp [hk]) _ hlt
      omega
     ·intro k ok hok hSk e he hb
      rw [hg] at hSk ⊢
      simp only at hSk ⊢
      by_cases e':e.on = j
      ·simp [e']
      ·rw [if_neg e']
       by_cases e'':k = j
       ·subst e''
        rw [h2] at hok
        cases hok
        exact h3 e he hb
       ·rw [if_neg e''] at hSk
        exact hC k ok hok hSk e he hb
     ·intro i h1 h2
      rw [hg]
      simp only [if_neg (show ¬ i = j by omega)]
      exact hM i h1 h2
end Go.Av
namespace Go.Av
def hidG (G:Gh) (φ0:Nat->Option Loc) (nx0:Nat) (w1:World) (b:Nat):Gh:={ w0:=w1,ok0:=G.ok0,wr:=λ k=>G.may k/\k≠b,n:=G.n,φ0:=φ0,nx0:=nx0 }
structure Hid (G:Gh) (φ0:Nat->Option Loc) (nx0:Nat) (w1:World) (b:Nat) (arr:Array Value) (T:TypeId):Prop where
 os:w1.os = G.w0.os
 tape:w1.tape = G.w0.tape
 output:w1.output = G.w0.output
 size:G.w0.heap.size<=b
 lt:b < w1.heap.size
 frame:∀ k,k < G.w0.heap.size->¬ G.wr k->w1.heap[k]? = G.w0.heap[k]?
 kept:∀ k o,G.ok0 k o->w1.cell? ⟨k,o,none⟩ = G.w0.cell? ⟨k,o,none⟩
 okk:∀ k o,G.ok0 k o->k < G.w0.heap.size
 agree:∀ id,id < G.nx0->φ0 id = G.φ0 id
 nxle:G.nx0<=nx0
 blk:w1.heap[b]? = some (.cells arr T (0,0))
theorem hid_in {G:Gh} {st:St} {φ:Nat->Option Loc} {a:Act} {w:World} (r:RelA G st φ a w) (arr:Array Value) (T:TypeId) :
  RelA (hidG G φ st.nx (w.alloc (.cells arr T)) w.heap.size) st φ a (w.alloc (.cells arr T))/\Hid G φ st.nx (w.alloc (.cells arr T)) w.heap.size arr T:=by
 have hrel:=r.rel
 have hE:Ext w (w.alloc (.cells arr T)):=.alloc w _
 have hsz:w.heap.size < (w.alloc (.cells arr T)).heap.size:=by simp
 have hcell:∀ x o,OK G st.bx φ w x o->OK (hidG G φ st.nx (w.alloc (.cells arr T)) w.heap.size) st.bx φ (w.alloc (.cells arr T)) x o/\(w.alloc (.cells arr T)).cell? ⟨x,o,none⟩ = w.cell? ⟨x,o,none⟩:=by
  intro x o k
  have hx:x≠w.heap.size:=by have:=k.1;omega
  refine ⟨⟨Nat.lt_of_lt_of_le k.1 hE.size,k.2.1,λ _=>?_⟩,hE.cell k.1 o⟩
  rcases Nat.lt_or_ge x G.w0.heap.size with h|h
  ·rcases k.2.2 h with q|q
   ·exact .inl q
   ·exact .inr ⟨.inr q,hx⟩
  ·exact .inr ⟨.inl h,hx⟩
 refine ⟨⟨?_,r.defers,r.sz,λ t v h=>⟨(r.env t v h).1,(r.env t v h).2.mono hcell (λ _ _ h=>h)⟩⟩,?_⟩
 ·constructor
  ·rfl
  ·rfl
  ·rfl
  ·exact Nat.le_refl _
  ·intro b hb hw;rfl
  ·intro b o hk;rfl
  ·intro b o hk;exact ⟨Nat.lt_of_lt_of_le (hrel.okk b o hk).1 (Nat.le_trans hrel.size hE.size),(hrel.okk b o hk).2⟩
  ·intro id b hb
   obtain ⟨L,hL,hr,hm⟩:=hrel.box id b hb
   exact ⟨L,hL,hr.mono hcell (λ _ _ k=>k) (λ hv k hk=>hE.block _ (hr.lt hv hk)),λ hv k hk=>.inr ⟨hm hv k hk,by have:=hr.lt hv hk;omega⟩⟩
  ·exact hrel.apart
  ·exact hrel.dom
  ·intro id _;rfl
  ·exact Nat.le_refl _
 ·constructor
  ·exact hE.os.trans hrel.os
  ·exact hE.tape.trans hrel.tape
  ·exact hE.output.trans hrel.output
  ·exact hrel.size
  ·exact hsz
  ·exact λ k hk hw=>(hE.block k (Nat.lt_of_lt_of_le hk hrel.size)).trans (hrel.frame k hk hw)
  ·exact λ k o h=>(hE.cell (Nat.lt_of_lt_of_le (hrel.okk k o h).1 hrel.size) o).trans (hrel.kept k o h)
  ·exact λ k o h=>(hrel.okk k o h).1
  ·exact hrel.agree
  ·exact hrel.nxle
  ·simp [World.alloc,-World.alloc_eq]
theorem hid_out {G:Gh} {φ0:Nat->Option Loc} {nx0:Nat} {w1:World} {b:Nat} {arr:Array Value} {T:TypeId} (H:Hid G φ0 nx0 w1 b arr T) {env env':List (Nat×AV)} {bx:List (Nat×Option Box)} {nx:Nat} {φ:Nat->Option Loc} {a:Act} {w:World}
  (r:RelA (hidG G φ0 nx0 w1 b) ⟨env',bx,nx⟩ φ a w) {z:AV} {sz:Nat} (hk:Qs sz z) (hz:∀ w φ ok,Y5 w φ ok z.cells arr.toList) {d:Tmp} (hd:d < G.n) (ha:a.tmps.getD d Go.undef = .pointer (some ⟨b,0,none⟩))
  (he:∀ t v,t≠d->look env t = some v->look env' t = some v) (hev:look env d = some (.ptr nx 0 0)) :
  RelA G ⟨env,(nx,some ⟨[z],sz,false,false⟩)::bx,nx + 1⟩ (upd φ nx (.one b 0 sz arr.size false false)) a w:=by
 have hrel:Rel (hidG G φ0 nx0 w1 b) bx nx φ w:=r.rel
 have hsz:arr.size = sz:=by have:=(hz w φ (λ _ _=>True)).1;simp [hk.1] at this;exact this
 have hs:=H.size
 have hl:=H.lt
 have hw1:w1.heap.size<=w.heap.size:=hrel.size
 have hblk:w.heap[b]? = some (.cells arr T (0,0)):=(hrel.frame b H.lt (λ h=>h.2 rfl)).trans H.blk
 have hown:∀ id box L',box? bx id = some box->φ id = some L'->L'.virt = false->¬ L'.own b:=by
  intro id box L' h1 h2 hv ho
  obtain ⟨L2,hL2,_,hm⟩:=hrel.box id box h1
  obtain rfl:L2 = L':=by rw [h2] at hL2;exact (Option.some.inj hL2).symm
  rcases hm hv b ho with h|h
  ·exact absurd hl (Nat.not_lt.2 h)
  ·exact h.2 rfl
 have hne:∀ x o,OK (hidG G φ0 nx0 w1 b) bx φ w x o->x≠b:=by
  rintro x o k rfl
  rcases k.2.2 H.lt with h|h
  ·have:=H.okk _ _ h;omega
  ·exact h.2 rfl
 generalize hLL:Loc.one b 0 sz arr.size false false = L
 have hLo:∀ k,L.own k ↔ k = b:=by intro k;subst hLL;exact Iff.rfl
 have hLv:L.virt = false:=by subst hLL;rfl
 have hloc:∀ id L',φ id = some L'->upd φ nx L id = some L':=by
  intro id L' h
  have:id≠nx:=by intro e;subst e;rw [hrel.dom id (Nat.le_refl _)] at h;cases h
  simp [upd,this,h]
 have hback:∀ id box L',box? ((nx,some ⟨[z],sz,false,false⟩)::bx) id = some box->upd φ nx L id = some L'->(id = nx/\box = ⟨[z],sz,false,false⟩/\L' = L)∨(id≠nx/\box? bx id = some box/\φ id = some L'):=by
  intro id box L' h1 h2
  rw [box?_cons] at h1
  by_cases e:nx = id
  ·subst e
   simp [upd] at h1 h2
   exact .inl ⟨rfl,h1.symm,h2.symm⟩
  ·rw [if_neg e] at h1
   have e':id≠nx:=λ h=>e h.symm
   simp only [upd,if_neg e'] at h2
   exact .inr ⟨e',h1,h2⟩
 have hcell:∀ x o,OK (hidG G φ0 nx0 w1 b) bx φ w x o->OK G ((nx,some ⟨[z],sz,false,false⟩)::bx) (upd φ nx L) w x o/\w.cell? ⟨x,o,none⟩ = w.cell? ⟨x,o,none⟩:=by
  intro x o k
  refine ⟨⟨k.1,?_,λ hlt=>?_⟩,rfl⟩
  ·intro id box L' h1 h2 hv he
   rcases hback id box L' h1 h2 with ⟨rfl,rfl,rfl⟩|⟨_,h3,h4⟩
   ·exact absurd ((hLo x).1 he) (hne x o k)
   ·exact k.2.1 id box L' h3 h4 hv he
  ·rcases k.2.2 (show x < w1.heap.size by omega) with h|h
   ·exact .inl h
   ·rcases h.1 with q|q
    ·omega
    ·exact .inr q
 have hmay:∀ k,(hidG G φ0 nx0 w1 b).may k->G.may k:=by
  intro k h
  rcases h with h|h
  ·have h:w1.heap.size<=k:=h
   exact .inl (by omega)
  ·exact h.1
 have hwr:∀ k,k < G.w0.heap.size->¬ G.wr k->¬ (hidG G φ0 nx0 w1 b).wr k:=by
  rintro k h1 h2 ⟨q,_⟩
  rcases q with q|q
  ·omega
  ·exact h2 q
 refine ⟨?_,r.defers,r.sz,λ t v h=>?_⟩
 ·constructor
  ·exact hrel.os.trans H.os
  ·exact hrel.tape.trans H.tape
  ·exact hrel.output.trans H.output
  ·show G.w0.heap.size<=w.heap.size;omega
  ·intro k hk hw;exact (hrel.frame k (show k < w1.heap.size by omega) (hwr k hk hw)).trans (H.frame k hk hw)
  ·intro k o h;exact (hrel.kept k o h).trans (H.kept k o h)
  ·intro k o h
   refine ⟨H.okk k o h,?_⟩
   intro id box L' h1 h2 hv he
   rcases hback id box L' h1 h2 with ⟨rfl,rfl,rfl⟩|⟨_,h3,h4⟩
   ·have:=H.okk k o h;have:=(hLo k).1 he;omega
   ·exact (hrel.okk k o h).2 id box L' h3 h4 hv he
  ·intro id box hi
   rw [box?_cons] at hi
   by_cases e:nx = id
   ·subst e
    rw [if_pos rfl] at hi
    obtain rfl:=Option.some.inj hi
    refine ⟨L,by simp [upd],?_,λ hv k hk=>.inl (by rw [(hLo k).1 hk];exact hs)⟩
    have hone:∀ (i:Nat) (y:AV),([z]:List AV)[i]? = some y->i = 0/\y = z:=by
     intro i y h
     cases i with
     | zero=>simp at h;exact ⟨rfl,h.symm⟩
     | succ i=>simp at h
    subst hLL
    refine ⟨rfl,rfl,λ i y h=>(by obtain ⟨_,rfl⟩:=hone i y h;exact hk),λ h=>(by cases h),λ _=>?_,λ _ i x j y hx hy=>?_⟩
    ·exact lies_one ⟨arr,T,(0,0),hblk,rfl,by simp [hsz],λ o _=>by simp⟩
    ·obtain ⟨rfl,rfl⟩:=hone i x hx
     have hj:j < arr.size:=by rw [hsz,<-hk.1];exact (List.getElem?_eq_some_iff.1 hy).1
     have hv:arr[j]? = some arr[j]:=Array.getElem?_eq_getElem hj
     refine ⟨arr[j],?_,(hz _ _ _).2 j y _ hy (by rw [Array.getElem?_toList];exact hv)⟩
     simp only [Loc.one,Nat.zero_mul,Nat.zero_add]
     simp [World.cell?,hblk,hv]
   ·rw [if_neg e] at hi
    obtain ⟨L',hL',hr,hm⟩:=hrel.box id box hi
    exact ⟨L',hloc _ _ hL',hr.mono hcell hloc (λ _ _ _=>rfl),λ hv k hk=>hmay k (hm hv k hk)⟩
  ·intro id id' c c' L1 L2 h1 h2 hne' h3 h4 hv1 hv2 kb q1 q2
   rcases hback id c L1 h1 h3 with ⟨rfl,rfl,rfl⟩|⟨_,h5,h6⟩
   ·rcases hback id' c' L2 h2 h4 with ⟨rfl,rfl,rfl⟩|⟨_,h7,h8⟩
    ·exact absurd rfl hne'
    ·have:=(hLo kb).1 q1
     subst this
     exact hown id' c' L2 h7 h8 hv2 q2
   ·rcases hback id' c' L2 h2 h4 with ⟨rfl,rfl,rfl⟩|⟨_,h7,h8⟩
    ·have:=(hLo kb).1 q2
     subst this
     exact hown id c L1 h5 h6 hv1 q1
    ·exact hrel.apart id id' c c' L1 L2 h5 h7 hne' h6 h8 hv1 hv2 kb q1 q2
  ·intro id hid
   have hid:nx + 1<=id:=hid
   have:id≠nx:=by omega
   simp only [upd,if_neg this]
   exact hrel.dom id (by omega)
  ·intro i hi
   have h1:nx0<=nx:=hrel.nxle
   have h2:=H.nxle
   have:i≠nx:=by omega
   simp only [upd,if_neg this]
   exact (hrel.agree i (show i < nx0 by omega)).trans (H.agree i hi)
  ·have h1:nx0<=nx:=hrel.nxle
   have h2:=H.nxle
   show G.nx0<=nx + 1
   omega
 ·by_cases e:t = d
  ·subst e
   have hv:v = .ptr nx 0 0:=by
    have:look env t = some v:=h
    rw [hev] at this
    exact (Option.some.inj this).symm
   subst hv
   refine ⟨hd,?_⟩
   rw [ha]
   subst hLL
   have:=Rep.ptr (w:=w) (φ:=upd φ nx (.one b 0 sz arr.size false false)) (ok:=OK G ((nx,some ⟨[z],sz,false,false⟩)::bx) (upd φ nx (.one b 0 sz arr.size false false)) w) nx 0 0 (.one b 0 sz arr.size false false) (by simp [upd]) rfl
   simpa [Loc.one] using this
  ·have h':=r.env t v (he t v e h)
   exact ⟨h'.1,h'.2.mono hcell hloc⟩
end Go.Av
namespace Go.Av
def AlStep (ty:TypeId->Option TI) (o:Oper) (nx:Nat) (bx:List (Nat×Option Box)) (r:AV) (bx':List (Nat×Option Box)) (nx':Nat):Prop :=
 ∃ t ti d,o.op = .alloc t/\o.dst = some d/\ty t = some ti/\Qs ti.size (zeroE ti)/\r = .ptr nx 0 0/\bx' = (nx,some ⟨[zeroE ti],ti.size,false,false⟩)::bx/\nx' = nx + 1
def RStep (P:Program) (ty:TypeId->Option TI) (al k:Nat) (o:Oper) (get:Operand->AV) (bx:List (Nat×Option Box)) (nx:Nat) (r:AV) (bx':List (Nat×Option Box)) (nx':Nat):Prop :=
 if k = al then AlStep ty o nx bx r bx' nx' else AStep P o get bx nx r bx' nx'
def WTR (P:Program) (ty:TypeId->Option TI) (n:Nat) (bx0:List (Nat×Option Box)) (lq:Nat->Bool) (al:Nat):Nat->List Oper->St->(St->Prop)->Prop
 | _,[],st,K=>K st
 | k,o::l,st,K=>Je n o.dst = true/\if lq k = true then
   (Stay bx0 st.bx->∃ r bx' nx',RStep P ty al k o st.get st.bx st.nx r bx' nx'/\Stay bx0 bx'/\WTR P ty n bx0 lq al (k + 1) l ((St.mk st.env bx' nx').set o.dst r) K)
   else ∃ v,QV P ty bx0 st.get o.op v/\WTR P ty n bx0 lq al (k + 1) l (st.set o.dst v) K
section
variable {P : Program} {ty : TypeId → Option TI} {n : Nat} {ops : List Oper} {m : Nat} {lq : Nat → Bool} {al : Nat} {e0 : List (Nat × AV)} {bx0 : List (Nat × Option Box)}
theorem WTR_facts (hm:m<=ops.length) {K:St->Prop} :
  ∀ (d k:Nat),k + d = m->∀ (vs0:Nat->AV) (bx:List (Nat×Option Box)) (nx:Nat),Stay bx0 bx ->
    WTR P ty n bx0 lq al k ((ops.take m).drop k) ⟨EV ops vs0 e0 (λ _=>true) k,bx,nx⟩ K ->
    ∃ (vs:Nat->AV) (bxs:Nat->List (Nat×Option Box)) (nxs:Nat->Nat),(∀ i,i < k->vs i = vs0 i)/\bxs k = bx/\nxs k = nx /\
      (∀ i o,k<=i->i < m->lq i = true->ops[i]? = some o->Je n o.dst = true/\RStep P ty al i o (St.get ⟨EV ops vs e0 (λ _=>true) i,[],0⟩) (bxs i) (nxs i) (vs i) (bxs (i + 1)) (nxs (i + 1))) /\
      (∀ i o,k<=i->i < m->lq i = false->ops[i]? = some o->Je n o.dst = true/\QV P ty bx0 (St.get ⟨EV ops vs e0 (λ _=>true) i,[],0⟩) o.op (vs i)) /\
      (∀ i,k<=i->i < m->lq i = false->bxs (i + 1) = bxs i/\nxs (i + 1) = nxs i)/\(∀ i,k<=i->i<=m->Stay bx0 (bxs i)) /\
      K ⟨EV ops vs e0 (λ _=>true) m,bxs m,nxs m⟩
 | 0,k,hk,vs0,bx,nx,hst,h=>by
   obtain rfl:k = m:=by omega
   have e:(ops.take k).drop k = []:=by simp
   rw [e] at h
   exact ⟨vs0,λ _=>bx,λ _=>nx,λ _ _=>rfl,rfl,rfl,λ i o h1 h2=>by omega,λ i o h1 h2=>by omega,λ i h1 h2=>by omega,λ _ _ _=>hst,h⟩
 | d + 1,k,hk,vs0,bx,nx,hst,h=>by
   obtain ⟨o,ho,he⟩:=drop_at hm (k:=k) (by omega)
   rw [he] at h
   simp only [WTR] at h
   obtain ⟨hd,h⟩:=h
   have hget:∀ vs:Nat->AV,(∀ i,i < k->vs i = vs0 i)->St.get ⟨EV ops vs0 e0 (λ _=>true) k,bx,nx⟩ = St.get ⟨EV ops vs e0 (λ _=>true) k,[],0⟩:=by
    intro vs hv
    rw [EV_congr (vs:=vs) (vs':=vs0) (S':=λ _=>true) k λ i hi=>⟨hv i hi,rfl⟩]
    funext x;cases x<;>rfl
   have hset:∀ (v:AV) (bx':List (Nat×Option Box)) (nx':Nat),(St.mk (EV ops vs0 e0 (λ _=>true) k) bx' nx').set o.dst v = ⟨EV ops (λ i=>if i = k then v else vs0 i) e0 (λ _=>true) (k + 1),bx',nx'⟩:=by
    intro v bx' nx'
    have hEk:EV ops (λ i=>if i = k then v else vs0 i) e0 (λ _=>true) k = EV ops vs0 e0 (λ _=>true) k:=EV_congr k λ i hi=>⟨if_neg (by omega),rfl⟩
    simp only [EV,if_true,ho,Option.bind_some,hEk]
    cases hd:o.dst with
    | none=>rfl
    | some t=>simp [St.set]
   cases hq:lq k with
   | false =>
     rw [hq,if_neg (by decide)] at h
     obtain ⟨v,hv,h⟩:=h
     rw [hset] at h
     obtain ⟨vs,bxs,nxs,g1,g2,g3,g4,g5,g6,g7,g8⟩:=WTR_facts hm d (k + 1) (by omega) _ bx nx hst h
     have gk:∀ i,i < k->vs i = vs0 i:=λ i hi=>by rw [g1 i (by omega)];exact if_neg (by omega)
     refine ⟨vs,λ i=>if i = k then bx else bxs i,λ i=>if i = k then nx else nxs i,gk,by simp,by simp,λ i o' h1 h2 hl h3=>?_,λ i o' h1 h2 hl h3=>?_,λ i h1 h2 hl=>?_,λ i h1 h2=>?_,?_⟩
     ·by_cases e:i = k
      ·subst e;rw [hq] at hl;cases hl
      ·simp only [if_neg e,if_neg (show ¬ i + 1 = k by omega)]
       exact g4 i o' (by omega) h2 hl h3
     ·by_cases e:i = k
      ·subst e
       rw [ho] at h3
       cases h3
       have e1:vs i = v:=by rw [g1 i (by omega)];simp
       rw [e1,<-hget vs gk]
       exact ⟨hd,hv⟩
      ·exact g5 i o' (by omega) h2 hl h3
     ·by_cases e:i = k
      ·subst e;simp [g2,g3]
      ·simp only [if_neg e,if_neg (show ¬ i + 1 = k by omega)]
       exact g6 i (by omega) h2 hl
     ·by_cases e:i = k
      ·simp only [if_pos e];exact hst
      ·simp only [if_neg e];exact g7 i (by omega) h2
     ·simp only [if_neg (show ¬ m = k by omega)];exact g8
   | true =>
     rw [hq,if_pos rfl] at h
     obtain ⟨r,bx',nx',hv,hst',h⟩:=h hst
     rw [hset] at h
     obtain ⟨vs,bxs,nxs,g1,g2,g3,g4,g5,g6,g7,g8⟩:=WTR_facts hm d (k + 1) (by omega) _ bx' nx' hst' h
     have gk:∀ i,i < k->vs i = vs0 i:=λ i hi=>by rw [g1 i (by omega)];exact if_neg (by omega)
     refine ⟨vs,λ i=>if i = k then bx else bxs i,λ i=>if i = k then nx else nxs i,gk,by simp,by simp,λ i o' h1 h2 hl h3=>?_,λ i o' h1 h2 hl h3=>?_,λ i h1 h2 hl=>?_,λ i h1 h2=>?_,?_⟩
     ·by_cases e:i = k
      ·subst e
       rw [ho] at h3
       cases h3
       have e1:vs i = r:=by rw [g1 i (by omega)];simp
       simp only [if_true,if_neg (show ¬ i + 1 = i by omega),g2,g3,e1]
       rw [<-hget vs gk]
       exact ⟨hd,hv⟩
      ·simp only [if_neg e,if_neg (show ¬ i + 1 = k by omega)]
       exact g4 i o' (by omega) h2 hl h3
     ·by_cases e:i = k
      ·subst e;rw [hq] at hl;cases hl
      ·exact g5 i o' (by omega) h2 hl h3
     ·by_cases e:i = k
      ·subst e;rw [hq] at hl;cases hl
      ·simp only [if_neg e,if_neg (show ¬ i + 1 = k by omega)]
       exact g6 i (by omega) h2 hl
     ·by_cases e:i = k
      ·simp only [if_pos e];exact hst
      ·simp only [if_neg e];exact g7 i (by omega) h2
     ·simp only [if_neg (show ¬ m = k by omega)];exact g8
def drawAl (ops:List Oper) (m:Nat) (lq:Nat->Bool) (al:Nat):Bool :=
 decide (al < m) && lq al && ((List.range ops.length).all λ j=>match ops[j]? with
  | none=>true
  | some oj=>(decide (m<=j) || oj.guard.isNone && (j == al || oj.dst != (ops[al]?).bind (·.dst)) && (!lq j || j == al || (List.range j).all (λ i=>!lq i || reach ops ops.length j i)))
    && (!oj.after.toList.any (λ e=>Region.binds .any e && e.on == al) || (List.range al).all (λ i=>!lq i || reach ops ops.length j i)))
structure DrawAl (ops:List Oper) (m:Nat) (lq:Nat->Bool) (al:Nat):Prop where
 lt:al < m
 loud:lq al = true
 gd:∀ (j:Nat) (o:Oper),j < m->ops[j]? = some o->o.guard = none
 dst:∀ (j:Nat) (o:Oper),j < m->j≠al->ops[j]? = some o->o.dst≠(ops[al]?).bind (·.dst)
 ord:∀ (j:Nat) (o:Oper) (i:Nat),j < m->j≠al->ops[j]? = some o->lq j = true->i < j->lq i = true->reach ops ops.length j i = true
 dep:∀ (j:Nat) (o:Oper) (e:Edge) (i:Nat),ops[j]? = some o->e∈o.after->Region.binds .any e = true->e.on = al->i < al->lq i = true->reach ops ops.length j i = true
theorem drawAl_spec {ops:List Oper} {m:Nat} {lq:Nat->Bool} {al:Nat} (hm:m<=ops.length) (h:drawAl ops m lq al = true):DrawAl ops m lq al:=by
 simp only [drawAl,Bool.and_eq_true,List.all_eq_true,List.mem_range,decide_eq_true_eq] at h
 obtain ⟨⟨h1,h2⟩,h3⟩:=h
 have key:∀ (j:Nat) (o:Oper),j < m->ops[j]? = some o->o.guard = none/\(j≠al->o.dst≠(ops[al]?).bind (·.dst))/\(j≠al->lq j = true->∀ i,i < j->lq i = true->reach ops ops.length j i = true):=by
  intro j o hj ho
  have k:=h3 j (by omega)
  rw [ho] at k
  simp only [Bool.and_eq_true,Bool.or_eq_true,decide_eq_true_eq,Bool.not_eq_true',List.all_eq_true,List.mem_range,beq_iff_eq,bne_iff_ne] at k
  obtain ⟨k,_⟩:=k
  rcases k with k|⟨⟨k1,k2⟩,k3⟩
  ·omega
  ·refine ⟨by simpa using k1,λ hne=>?_,λ hne hq i hi hli=>?_⟩
   ·rcases k2 with k2|k2
    ·exact absurd k2 hne
    ·exact k2
   ·rcases k3 with (k3|k3)|k3
    ·rw [hq] at k3;cases k3
    ·exact absurd k3 hne
    ·rcases k3 i hi with q|q
     ·rw [hli] at q;cases q
     ·exact q
 refine ⟨h1,h2,λ j o hj ho=>(key j o hj ho).1,λ j o hj hne ho=>(key j o hj ho).2.1 hne,λ j o i hj hne ho hq hi hli=>(key j o hj ho).2.2 hne hq i hi hli,?_⟩
 intro j o e i ho he hb hon hi hli
 have k:=h3 j (List.getElem?_eq_some_iff.1 ho).1
 rw [ho] at k
 simp only [Bool.and_eq_true] at k
 have k:=k.2
 simp only [Bool.or_eq_true,Bool.not_eq_true',List.any_eq_false,Bool.and_eq_true,beq_iff_eq,not_and,List.all_eq_true,List.mem_range] at k
 rcases k with k|k
 ·exact absurd hon (k e (by simpa using he) hb)
 ·rcases k i hi with q|q
  ·rw [hli] at q;cases q
  ·exact q
theorem T_drawA {G:Gh} {Q:Exit->St->Prop} {id:Nat} {l pre post:List Oper} {st:St} (m:Nat) (loud:List Nat) (al:Nat) (hty:TyOk P ty) (hmix:P.follows .mixedOrders = true)
  (h1:l.take m = pre) (h3:l.drop m = post) (hD:drawOk l m = true) (hX:drawAl l m (λ k=>loud.contains k) al = true) (hm:m<=l.length)
  (h:WTR P ty G.n st.bx (λ k=>loud.contains k) al 0 pre st λ s=>WX false P ty G.n l post s (Q .normal)):T P G (.region id l.toArray true) st Q:=by
 subst h1 h3
 have hA:=drawAl_spec hm hX
 have hD:=drawOk_spec hD
 generalize hlq:(λ k=>loud.contains k) = lq at *
 clear hX hlq loud
 obtain ⟨hal,hlal,hgd,hdst,hord,hdep⟩:=hA
 intro φ a w r
 refine wp_region_any hmix ?_
 obtain ⟨vs,bxs,nxs,_,g2,g3,g4,g5,g6,g7,g8⟩:=WTR_facts (e0:=st.env) hm m 0 (by omega) (λ _=>.undef) st.bx st.nx (λ _ _ h=>h) h
 have hbxs:∀ c d,c<=m->d<=m->(∀ i,i < m->lq i = true->decide (i < c) = decide (i < d))->bxs c = bxs d/\nxs c = nxs d:=by
  have hB:=λ i hi hl=>g6 i (Nat.zero_le _) hi hl
  intro c d hc hd h
  rcases Nat.le_total c d with hcd|hcd
  ·obtain ⟨h1,h2⟩:=bxs_same hB (d - c) c (by omega) (λ i a b=>by
    cases hl:lq i with
    | false=>rfl
    | true=>have:=h i (by omega) hl;simp at this;omega)
   rw [show c + (d - c) = d by omega] at h1 h2
   exact ⟨h1.symm,h2.symm⟩
  ·obtain ⟨h1,h2⟩:=bxs_same hB (c - d) d (by omega) (λ i a b=>by
    cases hl:lq i with
    | false=>rfl
    | true=>have:=h i (by omega) hl;simp at this;omega)
   rw [show d + (c - d) = c by omega] at h1 h2
   exact ⟨h1,h2⟩
 -- the new variable
 obtain ⟨oa,hoa⟩:∃ oa,l[al]? = some oa:=⟨l[al]'(by omega),by simp⟩
 obtain ⟨hda,hRa⟩:=g4 al oa (Nat.zero_le _) hal hlal hoa
 unfold RStep at hRa
 rw [if_pos rfl] at hRa
 obtain ⟨t,ti,d,hop,hdd,hti,hok,hva,hba,hna⟩:=hRa
 have hdlt:d < G.n:=by rw [hdd] at hda;simpa [Je] using hda
 have hdne:∀ (j:Nat) (o:Oper),j < m->j≠al->l[j]? = some o->o.dst≠some d:=λ j o hj hne ho=>by
  have:=hdst j o hj hne ho
  rw [hoa] at this
  simpa [hdd] using this
 let vs':Nat->AV:=λ i=>if i = al then .undef else vs i
 have hvs':∀ i,i≠al->vs' i = vs i:=λ i hi=>if_neg hi
 let I1:(Nat->Bool)->Act->World->Prop:=λ S a w=>S al = false/\∃ c φ,c<=al/\(∀ i,i < m->lq i = true->S i = decide (i < c))/\RelA G ⟨EV l vs st.env S m,bxs c,nxs c⟩ φ a w
 let I2:(Nat->Bool)->Act->World->Prop:=λ S a w=>S al = true/\Closed l (λ k=>S k && decide (k≠al))/\∃ c φ φ0 nx0 w1 b arr T,c<=al/\(∀ i,i < m->lq i = true->i≠al->S i = decide (i < c))/\RelA (hidG G φ0 nx0 w1 b) ⟨EV l vs' st.env S m,bxs c,nxs c⟩ φ a w /\
  Hid G φ0 nx0 w1 b arr T/\(∀ w φ ok,Y5 w φ ok (zeroE ti).cells arr.toList)/\a.tmps.getD d Go.undef = .pointer (some ⟨b,0,none⟩)
 let I3:(Nat->Bool)->Act->World->Prop:=λ S a w=>S al = true/\∃ c φ,c<=m/\(∀ i,i < m->lq i = true->S i = decide (i < c))/\RelA G ⟨EV l vs st.env S m,bxs c,nxs c⟩ φ a w
 -- what is hidden is shown
 have conv:∀ S a w,(∀ i,i < al->lq i = true->S i = true)->I2 S a w->I3 S a w:=by
  rintro S a w hlo ⟨hSa,hCl,c,φ,φ0,nx0,w1,b,arr,T,hc,hcl,r,H,hz,htm⟩
  have hhi:∀ i,i < m->lq i = true->i≠al->S i = decide (i < al):=by
   intro i hi hli hne
   rcases Nat.lt_or_gt_of_ne hne with h|h
   ·rw [hlo i h hli];simp [h]
   ·cases hS:S i with
    | false=>simp;omega
    | true =>
      have hoi:l[i]? = some (l[i]'(by omega)):=by simp
      have:=reach_closed hCl _ i al _ hoi (λ e he hb=>hCl i _ hoi (by simp [hS,hne]) e he hb) (hord i _ al hi hne hoi hli h hlal)
      simp at this
  obtain ⟨b1,b2⟩:=hbxs c al (by omega) (by omega) (λ i hi hli=>by
   by_cases e:i = al
   ·subst e;simp;omega
   ·rw [<-hcl i hi hli e,hhi i hi hli e])
  rw [b1,b2] at r
  refine ⟨hSa,al + 1,upd φ (nxs al) (.one b 0 ti.size arr.size false false),by omega,λ i hi hli=>?_,?_⟩
  ·by_cases e:i = al
   ·subst e;rw [hSa];simp
   ·rw [hhi i hi hli e]
    congr 1
    simp only [eq_iff_iff];omega
  ·rw [hba,hna]
   refine hid_out H r hok hz hdlt htm (λ t' v hne hl=>?_) ?_
   ·rw [<-hl]
    refine EV_agreeS m λ k hk hw=>⟨rfl,λ _=>hvs' k λ e=>?_⟩
    subst e
    rw [hoa] at hw
    simp only [Option.bind_some,hdd] at hw
    exact hne (Option.some.inj hw).symm
   ·rw [<-hva]
    refine EV_last hSa (by rw [hoa];exact hdd) m hal λ k hk hkm hw=>?_
    have hok':l[k]? = some (l[k]'(by omega)):=by simp
    rw [hok'] at hw
    exact absurd hw (hdne k _ hkm (by omega) hok')
 -- steps when it is there
 have step3:∀ (S:Nat->Bool) (j:Nat) (o:Oper) (a:Act) (w:World),j < m->l[j]? = some o->S j = false->(∀ e∈o.after,Region.binds .any e = true->S e.on = true)->Closed l S->I3 S a w ->
   o.wp P a w (I3 λ k=>if k = j then true else S k) (QE G Q):=by
  rintro S j o a w hj ho hS h3 hC ⟨hSa,c,φ,hcm,hcl,r⟩
  have hne:j≠al:=by rintro rfl;rw [hS] at hSa;cases hSa
  have hSa':(if al = j then true else S al) = true:=by rw [hSa];simp
  cases hq:lq j with
  | false =>
    obtain ⟨hd,hv⟩:=g5 j o (Nat.zero_le _) hj hq ho
    refine core_quiet (vs:=vs) (vs':=vs) (G':=G) hty hD hj hm ho hS h3 hC (λ _ _ _=>.inl rfl) rfl hd (QV_mono (g7 c (Nat.zero_le _) hcm) hv) (λ φ a w r=>?_) φ a w r
    refine ⟨hSa',c,φ,hcm,λ i hi hli=>?_,r⟩
    by_cases e:i = j
    ·subst e;rw [hq] at hli;cases hli
    ·simp only [if_neg e];exact hcl i hi hli
  | true =>
    obtain ⟨hd,hv⟩:=g4 j o (Nat.zero_le _) hj hq ho
    unfold RStep at hv
    rw [if_neg hne] at hv
    have hcj:¬ j < c:=by
     have:=hcl j hj hq
     rw [hS] at this
     simpa using this.symm
    have lo:∀ i,i < m->lq i = true->S i = decide (i < j):=by
     intro i hi hli
     rcases Nat.lt_trichotomy i j with h|h|h
     ·rw [reach_closed hC _ j i o ho h3 (hord j o i hj hne ho hq h hli)];simp [h]
     ·subst h;rw [hS];simp
     ·rw [hcl i hi hli]
      congr 1
      simp only [eq_iff_iff];omega
    obtain ⟨b1,b2⟩:=hbxs c j hcm (by omega) (λ i hi hl=>by rw [<-hcl i hi hl,lo i hi hl])
    rw [b1,b2] at r
    refine core_loud (vs:=vs) (vs':=vs) (G':=G) hD hj hm ho hS h3 hC (λ _ _ _=>.inl rfl) rfl hd hv (λ φ a w r=>?_) φ a w r
    refine ⟨hSa',j + 1,φ,by omega,λ i hi hli=>?_,r⟩
    by_cases e:i = j
    ·subst e;simp
    ·simp only [if_neg e]
     rw [lo i hi hli]
     congr 1
     simp only [eq_iff_iff];omega
 have hz0:∀ i,got (Array.replicate l.toArray.size false) i = false:=by
  intro i
  simp only [got,Array.getD]
  split<;>simp
 refine any_sim (Inv:=λ S a w=>I1 S a w∨I2 S a w∨I3 S a w) hty hD hgd hm ?_ (st:=⟨EV l vs st.env (λ _=>true) m,bxs m,nxs m⟩) ?_ g8 (λ s hs=>hs) _ _ a _ (by simp) ?_ (λ j o _ h=>by rw [hz0] at h;cases h) (λ i _ _=>hz0 i) (.inl ⟨hz0 al,0,φ,Nat.zero_le _,λ i _ _=>by rw [hz0];simp,?_⟩)
 ·rintro S j o a w hj ho hS h3 hC hM (⟨hSa,c,φ,hc,hcl,r⟩|hI2|hI3)
  ·by_cases hja:j = al
   ·-- the new variable itself
    subst hja
    rw [hoa] at ho
    obtain rfl:=Option.some.inj ho
    obtain ⟨dv,f,z,T⟩:=hty.at hti
    have hz:∀ w φ ok,Y5 w φ ok (zeroE ti).cells z.cells.toList:=λ w φ ok=>by rw [zeroE_cells T hok];exact rep_zero T w φ _
    have hrun:(execOp a.eval oa).run P w = .ok (.value (.pointer (some ⟨w.heap.size,0,none⟩))) (w.alloc (.cells z.cells t)):=by
     obtain ⟨dst,op,type,pos,after,guard⟩:=oa
     simp only at hop
     subst hop
     simp [execOp,Instr.alloc,T.run_zero,newVar,newRow]
    unfold Oper.wp
    rw [hrun]
    show _∨_∨_
    refine .inr (.inl ?_)
    obtain ⟨r1,H⟩:=hid_in r z.cells t
    have e1:EV l vs st.env S m = EV l vs' st.env S m:=EV_congrS m λ k hk=>⟨rfl,λ hSk=>(hvs' k (λ e=>by subst e;rw [hS] at hSk;cases hSk)).symm⟩
    rw [e1] at r1
    have hva':vs' j = .undef:=if_pos rfl
    refine ⟨by simp,?_,c,φ,_,_,_,_,_,_,hc,λ i hi hli hne=>?_,after_text hD hj hm hoa hS hC (by rw [hva'];exact r1.put_undef hda _),H,hz,?_⟩
    ·have:(λ k=>(if k = j then true else S k) && decide (k≠j)) = S:=by
      funext k
      by_cases e:k = j
      ·subst e;simp [hS]
      ·simp [e]
     rw [this];exact hC
    ·simp only [if_neg hne];exact hcl i hi hli
    ·have hsz:d < a.tmps.size:=by rw [r.sz];exact hdlt
     rw [hdd]
     simp [Act.put,Array.getD,hsz]
   ·have hSa':(if al = j then true else S al) = false:=by rw [hSa,if_neg (λ e=>hja e.symm)]
    cases hq:lq j with
    | false =>
      obtain ⟨hd,hv⟩:=g5 j o (Nat.zero_le _) hj hq ho
      refine core_quiet (vs:=vs) (vs':=vs) (G':=G) hty hD hj hm ho hS h3 hC (λ _ _ _=>.inl rfl) rfl hd (QV_mono (g7 c (Nat.zero_le _) (by omega)) hv) (λ φ a w r=>?_) φ a w r
      refine .inl ⟨hSa',c,φ,hc,λ i hi hli=>?_,r⟩
      by_cases e:i = j
      ·subst e;rw [hq] at hli;cases hli
      ·simp only [if_neg e];exact hcl i hi hli
    | true =>
      obtain ⟨hd,hv⟩:=g4 j o (Nat.zero_le _) hj hq ho
      unfold RStep at hv
      rw [if_neg hja] at hv
      have hjl:j < al:=by
       rcases Nat.lt_or_gt_of_ne hja with h|h
       ·exact h
       ·have:=reach_closed hC _ j al o ho h3 (hord j o al hj hja ho hq h hlal)
        rw [hSa] at this;cases this
      have hcj:¬ j < c:=by
       have:=hcl j hj hq
       rw [hS] at this
       simpa using this.symm
      have lo:∀ i,i < m->lq i = true->S i = decide (i < j):=by
       intro i hi hli
       rcases Nat.lt_trichotomy i j with h|h|h
       ·rw [reach_closed hC _ j i o ho h3 (hord j o i hj hja ho hq h hli)];simp [h]
       ·subst h;rw [hS];simp
       ·rw [hcl i hi hli]
        congr 1
        simp only [eq_iff_iff];omega
      obtain ⟨b1,b2⟩:=hbxs c j (by omega) (by omega) (λ i hi hl=>by rw [<-hcl i hi hl,lo i hi hl])
      rw [b1,b2] at r
      refine core_loud (vs:=vs) (vs':=vs) (G':=G) hD hj hm ho hS h3 hC (λ _ _ _=>.inl rfl) rfl hd hv (λ φ a w r=>?_) φ a w r
      refine .inl ⟨hSa',j + 1,φ,by omega,λ i hi hli=>?_,r⟩
      by_cases e:i = j
      ·subst e;simp
      ·simp only [if_neg e]
       rw [lo i hi hli]
       congr 1
       simp only [eq_iff_iff];omega
  ·have hSa:=hI2.1
   have hja:j≠al:=by rintro rfl;rw [hS] at hSa;cases hSa
   by_cases hed:∃ e∈o.after,Region.binds .any e = true/\e.on = al
   ·obtain ⟨e,he,hb,hon⟩:=hed
    refine Oper.wp_mono (λ a w h=>.inr (.inr h)) (step3 S j o a w hj ho hS h3 hC (conv S a w (λ i hi hli=>?_) hI2))
    exact reach_closed hC _ j i o ho h3 (hdep j o e i ho he hb hon hi hli)
   ·obtain ⟨_,hCl,c,φ,φ0,nx0,w1,b,arr,T,hc,hcl,r,H,hz,htm⟩:=hI2
    have hv0:∀ k,k < m->S k = true->vs' k = vs k∨∀ e∈o.after,Region.binds .any e = true->e.on≠k:=by
     intro k _ _
     by_cases e:k = al
     ·subst e;exact .inr λ e he hb hon=>hed ⟨e,he,hb,hon⟩
     ·exact .inl (hvs' k e)
    have h3':∀ e∈o.after,Region.binds .any e = true->(S e.on && decide (e.on≠al)) = true:=λ e he hb=>by
     rw [h3 e he hb]
     simp only [Bool.true_and,decide_eq_true_eq]
     exact λ hon=>hed ⟨e,he,hb,hon⟩
    have hSa':(if al = j then true else S al) = true:=by rw [hSa];simp
    have hCl':Closed l (λ k=>(if k = j then true else S k) && decide (k≠al)):=by
     intro k ok hok hSk e he hb
     simp only [Bool.and_eq_true,decide_eq_true_eq] at hSk ⊢
     by_cases ek:k = j
     ·subst ek
      rw [ho] at hok
      obtain rfl:=Option.some.inj hok
      have:=h3' e he hb
      simp only [Bool.and_eq_true,decide_eq_true_eq] at this
      refine ⟨?_,this.2⟩
      rw [this.1];simp
     ·rw [if_neg ek] at hSk
      have:=hCl k ok hok (by simp [hSk.1,hSk.2]) e he hb
      simp only [Bool.and_eq_true,decide_eq_true_eq] at this
      refine ⟨?_,this.2⟩
      rw [this.1];simp
    have hodd:=hdne j o hj hja ho
    cases hq:lq j with
    | false =>
      obtain ⟨hd,hv⟩:=g5 j o (Nat.zero_le _) hj hq ho
      have main:=core_quiet (G':=hidG G φ0 nx0 w1 b) (Q:=QE G Q) (K:=λ a w=>∃ φ,RelA (hidG G φ0 nx0 w1 b) ⟨EV l vs' st.env (λ k=>if k = j then true else S k) m,bxs c,nxs c⟩ φ a w)
       hty hD hj hm ho hS h3 hC hv0 (hvs' j hja) hd (QV_mono (g7 c (Nat.zero_le _) (by omega)) hv) (λ φ a w r=>⟨φ,r⟩) φ a w r
      refine Oper.wp_mono ?_ (wp_keeps hodd main)
      rintro a' w' ⟨⟨φ',r'⟩,htm'⟩
      refine .inr (.inl ⟨hSa',hCl',c,φ',φ0,nx0,w1,b,arr,T,hc,λ i hi hli hne=>?_,r',H,hz,htm'.trans htm⟩)
      by_cases e:i = j
      ·subst e;rw [hq] at hli;cases hli
      ·simp only [if_neg e];exact hcl i hi hli hne
    | true =>
      obtain ⟨hd,hv⟩:=g4 j o (Nat.zero_le _) hj hq ho
      unfold RStep at hv
      rw [if_neg hja] at hv
      have hjl:j < al:=by
       rcases Nat.lt_or_gt_of_ne hja with h|h
       ·exact h
       ·have:=reach_closed hCl _ j al o ho h3' (hord j o al hj hja ho hq h hlal)
        simp at this
      have hcj:¬ j < c:=by
       have:=hcl j hj hq hja
       rw [hS] at this
       simpa using this.symm
      have lo:∀ i,i < m->lq i = true->i≠al->S i = decide (i < j):=by
       intro i hi hli hne
       rcases Nat.lt_trichotomy i j with h|h|h
       ·rw [reach_closed hC _ j i o ho h3 (hord j o i hj hja ho hq h hli)];simp [h]
       ·subst h;rw [hS];simp
       ·rw [hcl i hi hli hne]
        congr 1
        simp only [eq_iff_iff];omega
      obtain ⟨b1,b2⟩:=hbxs c j (by omega) (by omega) (λ i hi hl=>by
       by_cases e:i = al
       ·subst e
        congr 1
        simp only [eq_iff_iff];omega
       ·rw [<-hcl i hi hl e,lo i hi hl e])
      rw [b1,b2] at r
      have main:=core_loud (G':=hidG G φ0 nx0 w1 b) (Q:=QE G Q) (K:=λ a w=>∃ φ,RelA (hidG G φ0 nx0 w1 b) ⟨EV l vs' st.env (λ k=>if k = j then true else S k) m,bxs (j + 1),nxs (j + 1)⟩ φ a w)
       hD hj hm ho hS h3 hC hv0 (hvs' j hja) hd hv (λ φ a w r=>⟨φ,r⟩) φ a w r
      refine Oper.wp_mono ?_ (wp_keeps hodd main)
      rintro a' w' ⟨⟨φ',r'⟩,htm'⟩
      refine .inr (.inl ⟨hSa',hCl',j + 1,φ',φ0,nx0,w1,b,arr,T,by omega,λ i hi hli hne=>?_,r',H,hz,htm'.trans htm⟩)
      by_cases e:i = j
      ·subst e;simp
      ·simp only [if_neg e]
       rw [lo i hi hli hne]
       congr 1
       simp only [eq_iff_iff];omega
  ·exact Oper.wp_mono (λ a w h=>.inr (.inr h)) (step3 S j o a w hj ho hS h3 hC hI3)
 ·rintro S a w hall hC hI
  have hI3:I3 S a w:=by
   rcases hI with ⟨hSa,_⟩|hI2|hI3
   ·rw [hall al hal] at hSa;cases hSa
   ·exact conv S a w (λ i hi _=>hall i (by omega)) hI2
   ·exact hI3
  obtain ⟨_,c,φ,hcm,hcl,r⟩:=hI3
  obtain ⟨b1,b2⟩:=hbxs c m hcm (Nat.le_refl _) (λ i hi hl=>by rw [<-hcl i hi hl,hall i hi];simp [hi])
  rw [b1,b2,EV_congr (vs':=vs) (S':=λ _=>true) m λ k hk=>⟨rfl,hall k hk⟩] at r
  exact ⟨φ,r⟩
 ·have:∀ n,cnt (got (Array.replicate l.toArray.size false)) n = n:=by
   intro n
   induction n with
   | zero=>rfl
   | succ n ih=>simp only [cnt,ih,hz0];simp
  rw [this]
  simp
 ·have hE:EV l vs st.env (got (Array.replicate l.toArray.size false)) m = st.env:=by
   rw [EV_stop (k:=0) m (by omega) (λ i _ _=>hz0 i)]
   rfl
  rw [hE,g2,g3]
  exact r.ext (.drew w)
theorem WTR_loud {o:Oper} {l:List Oper} {st:St} {K:St->Prop} {k:Nat} (hq:lq k = true) (hk:(k == al) = false) (h:WL P n bx0 [o] st λ s=>WTR P ty n bx0 lq al (k + 1) l s K):WTR P ty n bx0 lq al k (o::l) st K:=by
 have hne:¬ k = al:=by simpa using hk
 obtain ⟨h1,h2⟩:=h
 refine ⟨h1,?_⟩
 rw [hq,if_pos rfl]
 intro hS
 obtain ⟨r,bx',nx',q1,q2,q3⟩:=h2 hS
 refine ⟨r,bx',nx',?_,q2,q3⟩
 unfold RStep
 rw [if_neg hne]
 exact q1
theorem WTR_new {t:TypeId} {d:Tmp} {tp:TypeId} {pos:String} {aft:Array Edge} {gd:Option (Nat×Bool)} {l:List Oper} {env:List (Nat×AV)} {bx:List (Nat×Option Box)} {nx:Nat} {K:St->Prop} {k:Nat} (hq:lq k = true) (hk:(k == al) = true) {ti:TI} {z:AV} (ht:ty t = some ti) (hz:zeroE ti = z) (hkk:Qs ti.size z) (hd:Je n (some d) = true) (hn:box? bx0 nx = none)
  (h:WTR P ty n bx0 lq al (k + 1) l ⟨(d,.ptr nx 0 0)::env,(nx,some ⟨[z],ti.size,false,false⟩)::bx,nx + 1⟩ K):WTR P ty n bx0 lq al k (⟨some d,.alloc t,tp,pos,aft,gd⟩::l) ⟨env,bx,nx⟩ K:=by
 subst hz
 have he:k = al:=by simpa using hk
 refine ⟨hd,?_⟩
 rw [hq,if_pos rfl]
 intro hS
 refine ⟨.ptr nx 0 0,_,_,?_,stay_cons hn hS,h⟩
 unfold RStep
 rw [if_pos he]
 exact ⟨t,ti,d,rfl,rfl,ht,hkk,rfl,rfl,rfl⟩
theorem WTR_quiet {o:Oper} {l:List Oper} {env:List (Nat×AV)} {bx:List (Nat×Option Box)} {nx:Nat} {K:St->Prop} {k:Nat} (hq:lq k = false) (hg:o.guard = none) (h:WX true P ty n [] [o] ⟨env,bx0,nx⟩ λ s=>WTR P ty n bx0 lq al (k + 1) l ⟨s.env,bx,nx⟩ K):WTR P ty n bx0 lq al k (o::l) ⟨env,bx,nx⟩ K:=by
 simp only [WX,hg] at h
 obtain ⟨hd,h⟩:=h
 refine ⟨hd,?_⟩
 rw [hq,if_neg (by decide)]
 unfold W1X at h
 rcases h with ⟨v,hv,h⟩|⟨hf,_⟩
 ·refine ⟨v,hv,?_⟩
  cases hdst:o.dst with
  | none=>rw [hdst] at h;exact h
  | some t=>rw [hdst] at h;exact h
 ·cases hf
end
end Go.Av
