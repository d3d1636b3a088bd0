/- Rows of bytes, as the helpers of the laws take them. -/
import Derived.Test.YtaolmfgpebncjaaGreatWt
set_option maxRecDepth 100000
set_option maxHeartbeats 3200000
set_option linter.unusedSimpArgs false
set_option linter.unusedVariables false
namespace Go.Proofs.YtaolmfgpebncjaaGreat
open Go.Av
attribute [local irreducible] T thenQ Uv Y0 Uz WX retV retR Gt Gts GtsP Qs CV CR Av.Pure
theorem szAfter_neg {left:Int} {n:Int} (h:left - n < 0):szAfter left n = -1:=if_pos h
theorem szAfter_pos {left:Int} {n:Int} (h:¬ left - n < 0):szAfter left n = left - n:=if_neg h
def sumW {α:Type} (w:α->Nat) (l:List α):Nat:=(l.map w).sum
def Y9 {α:Type} (w:α->Nat) (l:List α):Nat:=l.length + sumW w l
def listR {α:Type} (p:α->Prop) (l:List α):Prop:=l.length<=9223372036854775807/\∀ x∈l,p x
theorem sumW_take {α:Type} (w:α->Nat) (l:List α) (d:α) {k:Nat} (h:k < l.length):sumW w (l.take (k + 1)) = sumW w (l.take k) + w (l.getD k d):=by
 unfold sumW
 have e:l.take (k + 1) = l.take k++[l.getD k d]:=by rw [List.take_add_one,List.getElem?_eq_getElem h,List.getD_eq_getElem?_getD,List.getElem?_eq_getElem h];rfl
 rw [e,List.map_append,List.sum_append]
 simp only [List.map_cons,List.map_nil,List.sum_cons,List.sum_nil]
 omega
theorem sumW_le {α:Type} (w:α->Nat) (l:List α) (k:Nat):sumW w (l.take k)<=sumW w l:=by
 have h:=congrArg (λ r=>(List.map w r).sum) (List.take_append_drop k l)
 simp only [List.map_append,List.sum_append] at h
 unfold sumW
 omega
theorem listW_mem {α:Type} (w:α->Nat) (l:List α) {x:α} (h:x∈l):l.length + w x<=Y9 w l:=by
 unfold Y9 sumW
 induction l with
 | nil=>cases h
 | cons a l ih =>
   simp only [List.map_cons,List.sum_cons,List.length_cons]
   rcases List.mem_cons.1 h with rfl|h
   ·omega
   ·have:=ih h;omega
abbrev Y2 (ws:List (List UInt8)):AV:=sl1 (ws.map byA)
abbrev rowsW (ws:List (List UInt8)):Nat:=Y9 List.length ws
abbrev rowsR (ws:List (List UInt8)):Prop:=listR (λ w:List UInt8=>w.length<=9223372036854775807) ws
theorem eqB_cv (x:List UInt8) (h:x.length<=1048576):CV Tryz.prog 34 [byA x,byA x] (· = .bool true):=by
 have h:=eqByteS_cv x x (by omega)
 rw [decide_eq_true rfl] at h
 exact h
theorem szByteSS_cv (l:List (List UInt8)) (left:Int) (hx:listR (λ w:List UInt8=>w.length<=9223372036854775807) l) (h0:0<=left) (h1:left<=9223372036854775807) :
  CV Tryz.prog 17 [Y2 l,.int .i64 left] (· = .int .i64 (szAfter left (Y9 List.length l))):=by
 refine J7 Qc Tryz.func17 (by kernel_rfl) rfl 27 rfl (by simp) [.tmp 4] rfl ?_
 intro w0 ok0
 have hl:(l.map byA).length = l.length:=by simp
 obtain ⟨hn,hall⟩:=hx
 have hw0:IntKind.wrap .i64 (left - ((l.map byA).length:Int)) = left - (l.length:Int):=by rw [wrap_i64 (by omega) (by omega)];omega
 by_cases g:left - (l.length:Int) < 0
 ·have d:decide (left - (l.length:Int) < 0) = true:=decide_eq_true g
  have f:szAfter left (Y9 List.length l:Nat) = -1:=szAfter_neg (by unfold Y9;omega)
  rw [f]
  repeat' (first|refine Qh ?_|refine Q9 ?_|refine J8 ?_|refine Q8 Qc ?_|refine Qi ?_|refine Qu ?_|(apply Jr;exact rfl;(· (repeat' (first|exact Qb _ _|exact Qj _|exact Qn _);done)))|(apply Jf;exact rfl;(· (first|assumption|exact rfl)))|apply Qd|apply Q2|apply Jd|apply S_sub|(apply Qp;exact rfl;exact Q0 rfl)|exact Q0 rfl|assumption|exact rfl|fail)
 have d:decide (left - (l.length:Int) < 0) = false:=decide_eq_false g
 repeat' (first|refine Qh ?_|refine Q9 ?_|refine Q8 Qc ?_|refine Qi ?_|refine Qw ?_|refine Qo ?_|(apply J9;exact rfl;(· (first|assumption|exact rfl)))|apply Qd|apply Q2|apply Jd|apply S_sub|(apply Qp;exact rfl;exact Q0 rfl)|exact Q0 rfl|assumption|exact rfl|fail)
 refine Js (α:=Nat) (λ k=>⟨[(0,Y2 l),(1,.int .i64 (left - (l.length:Int) - (sumW List.length (l.take k):Int))),(5,.int .i64 k)],[],0⟩)
  (λ k=>l.length - k) (λ k=>k<=l.length/\0<=left - (l.length:Int) - (sumW List.length (l.take k):Int)) 0 ?_ ⟨by omega,by simp [sumW];omega⟩ ?_
 ·have e:left - (l.length:Int) - (sumW List.length (l.take 0):Int) = left - (l.length:Int):=by simp [sumW]
  rw [e]
  exact ((Jp (by repeat' (first|exact Qy|refine Qr rfl ?_)) (by repeat' (first|exact Qz|refine Qt (by first|rfl|exact congrArg (λ l=>some (Box.mk l _ _ _)) hset) ?_)) (Nat.le_refl _))).sub
 rintro k ⟨hk,hI⟩
 by_cases hkl:k < l.length
 ·have hc:decide ((k:Int) < ((l.map byA).length:Int)) = true:=by simp only [decide_eq_true_eq];omega
  have hget:=Uy byA l [] (k:=k) (by omega)
  have hkw:IntKind.wrap .i64 ((k:Int) + 1) = ((k + 1:Nat):Int):=by rw [wrap_i64 (by omega) (by omega)];omega
  have hs:=sumW_take List.length l [] hkl
  have hr:=hall _ (getD_mem l [] hkl)
  have hle:=sumW_le List.length l (k + 1)
  generalize l.getD k [] = x at *
  have c0:=szByteS_cv x (left - (l.length:Int) - (sumW List.length (l.take k):Int)) hr (by omega) (by omega)
  by_cases g2:left - (l.length:Int) - (sumW List.length (l.take k):Int) - ((x.length:Nat):Int) < 0
  ·rw [szAfter_neg g2] at c0
   have d2:decide ((-1:Int) < 0) = true:=rfl
   have f:szAfter left (Y9 List.length l:Nat) = -1:=szAfter_neg (by unfold Y9;omega)
   rw [f]
   repeat' (first|refine Qh ?_|refine Q9 ?_|refine J8 ?_|refine Ui ?_|refine Ya ?_|refine Q8 Qc ?_|refine Qi ?_|refine Qw ?_|refine Qu ?_|refine Qo ?_|(apply Jr;exact rfl;(· (repeat' (first|exact Qb _ _|exact Qj _|exact Qn _);done)))|(apply Jf;exact rfl;(· (first|assumption|exact rfl)))|apply Qd|apply Q2|(apply Ue;exact rfl;exact Q0 rfl;exact rfl;(· (first|exact ⟨rfl,rfl⟩|exact ⟨rfl,trivial⟩|assumption)))|apply Jd|(apply Qp;exact rfl;exact Q0 rfl)|(apply Jk;exact rfl;exact rfl;exact Q0 rfl;exact Q0 rfl)|apply Qk (f:=65)|apply c0|exact Qa|apply Q3|(apply View.pure;exact Q4.out)|exact Jq.out|exact Q0 rfl|exact Ql|(apply Qg;exact Q0 rfl)|assumption|(refine ⟨?_,?_⟩<;>omega)|exact rfl|fail)
  ·rw [szAfter_pos g2] at c0
   have d2:decide (left - (l.length:Int) - (sumW List.length (l.take k):Int) - ((x.length:Nat):Int) < 0) = false:=decide_eq_false g2
   have e:left - (l.length:Int) - (sumW List.length (l.take k):Int) - ((x.length:Nat):Int) = left - (l.length:Int) - (sumW List.length (l.take (k + 1)):Int):=by omega
   rw [e] at c0 d2
   repeat' (first|refine Qh ?_|refine Q9 ?_|refine U9 ?_|refine Q8 Qc ?_|refine Qi ?_|refine Qw ?_|refine Qo ?_|(apply Jf;exact rfl;(· (first|assumption|exact rfl)))|(apply J9;exact rfl;(· (first|assumption|exact rfl)))|apply Qd|apply Q2|(apply Ue;exact rfl;exact Q0 rfl;exact rfl;(· (first|exact ⟨rfl,rfl⟩|exact ⟨rfl,trivial⟩|assumption)))|apply Jd|apply Y7|(apply Qp;exact rfl;exact Q0 rfl)|(apply Jk;exact rfl;exact rfl;exact Q0 rfl;exact Q0 rfl)|apply Qk (f:=65)|apply c0|exact Qa|apply Q3|(apply View.pure;exact Q4.out)|exact Jq.out|exact Q0 rfl|exact Ql|(apply Qg;exact Q0 rfl)|assumption|(refine ⟨?_,?_⟩<;>omega)|exact rfl|fail)
   exact U7 (k + 1) ((Jp (by repeat' (first|exact Qy|refine Qr rfl ?_)) (by repeat' (first|exact Qz|refine Qt (by first|rfl|exact congrArg (λ l=>some (Box.mk l _ _ _)) hset) ?_)) (Nat.le_refl _))).sub ⟨by omega,by omega⟩ (by omega)
 ·have hc:decide ((k:Int) < ((l.map byA).length:Int)) = false:=by simp only [decide_eq_false_iff_not];omega
  obtain rfl:k = l.length:=by omega
  rw [List.take_length] at hI ⊢
  have f:szAfter left (Y9 List.length l:Nat) = left - (l.length:Int) - (sumW List.length l:Int):=by rw [szAfter_pos (by unfold Y9;omega)];unfold Y9;omega
  rw [f]
  repeat' (first|refine Qh ?_|refine Q9 ?_|refine Ua ?_|refine Jt ?_|refine Jo ?_|refine Q8 Qc ?_|refine Qi ?_|refine Qu ?_|refine Un ?_|(apply Jr;exact rfl;(· (repeat' (first|exact Qb _ _|exact Qj _|exact Qn _);done)))|(apply J9;exact rfl;(· (first|assumption|exact rfl)))|apply Qd|apply Q2|apply Jd|(apply Qp;exact rfl;exact Q0 rfl)|exact Q0 rfl|exact rfl|fail)
theorem eqByteSS_cv (l:List (List UInt8)) (h:Y9 List.length l<=1048576):CV Tryz.prog 22 [Y2 l,Y2 l] (· = .bool true):=by
 refine J7 Qc Tryz.func22 (by kernel_rfl) rfl 27 rfl (by simp) [.tmp 4] rfl ?_
 intro w0 ok0
 have hl:(l.map byA).length = l.length:=by simp
 have hll:l.length<=1048576:=by unfold Y9 at h;omega
 have hc0:(!decide (((l.map byA).length:Int) = ((l.map byA).length:Int))) = false:=by simp
 repeat' (first|refine Qh ?_|refine Q9 ?_|refine Q8 Qc ?_|refine Qi ?_|refine Qw ?_|refine Qo ?_|(apply J9;exact rfl;(· (first|assumption|exact rfl)))|apply Qd|apply Q2|(apply Y4;exact Q0 rfl;exact Q0 rfl)|(apply Qp;exact rfl;exact Q0 rfl)|exact Q0 rfl|exact rfl|fail)
 refine Js (α:=Nat) (λ k=>⟨[(0,Y2 l),(1,Y2 l),(5,.int .i64 k)],[],0⟩)
  (λ k=>l.length - k) (λ k=>k<=l.length) 0 ((Jp (by repeat' (first|exact Qy|refine Qr rfl ?_)) (by repeat' (first|exact Qz|refine Qt (by first|rfl|exact congrArg (λ l=>some (Box.mk l _ _ _)) hset) ?_)) (Nat.le_refl _))).sub (by omega) ?_
 intro k hk
 by_cases hkl:k < l.length
 ·have hc:decide ((k:Int) < ((l.map byA).length:Int)) = true:=by simp only [decide_eq_true_eq];omega
  have hget:=Uy byA l [] (k:=k) (by omega)
  have hkw:IntKind.wrap .i64 ((k:Int) + 1) = ((k + 1:Nat):Int):=by rw [wrap_i64 (by omega) (by omega)];omega
  have hle:=listW_mem List.length l (getD_mem l [] hkl)
  have c0:=eqB_cv (l.getD k []) (by omega)
  repeat' (first|refine Qh ?_|refine Q9 ?_|refine U9 ?_|refine Q8 Qc ?_|(apply T_drawM (id:=6) 8 Qc Uw;exact rfl;exact rfl;(· kernel_rfl);exact Nat.le_of_ble_eq_true rfl)|refine Qi ?_|refine Qw ?_|refine Qo ?_|(apply Jf;exact rfl;(· (first|assumption|exact rfl)))|(apply J9;exact rfl;(· (first|assumption|exact rfl)))|apply Qd|apply Q2|(apply Ue;exact rfl;exact Q0 rfl;exact rfl;(· (first|exact ⟨rfl,rfl⟩|exact ⟨rfl,trivial⟩|assumption)))|apply Jd|apply Y7|apply S_not|(apply Qp;exact rfl;exact Q0 rfl)|(apply Jk;exact rfl;exact rfl;exact Q0 rfl;exact Q0 rfl)|apply Qk (f:=34)|apply c0|exact Qa|apply Q3|(apply View.pure;exact Q4.out)|exact Jq.out|exact Q0 rfl|exact Ql|(apply Qg;exact Q0 rfl)|assumption|(refine ⟨?_,?_⟩<;>omega)|exact rfl|fail)
  exact U7 (k + 1) ((Jp (by repeat' (first|exact Qy|refine Qr rfl ?_)) (by repeat' (first|exact Qz|refine Qt (by first|rfl|exact congrArg (λ l=>some (Box.mk l _ _ _)) hset) ?_)) (Nat.le_refl _))).sub (by omega) (by omega)
 ·have hc:decide ((k:Int) < ((l.map byA).length:Int)) = false:=by simp only [decide_eq_false_iff_not];omega
  repeat' (first|refine Qh ?_|refine Q9 ?_|refine Ua ?_|refine Jt ?_|refine Jo ?_|refine Q8 Qc ?_|refine Qi ?_|refine Qu ?_|refine Un ?_|(apply Jr;exact rfl;(· (repeat' (first|exact Qb _ _|exact Qj _|exact Qn _);done)))|(apply J9;exact rfl;(· (first|assumption|exact rfl)))|apply Qd|apply Q2|apply Jd|(apply Qp;exact rfl;exact Q0 rfl)|exact Q0 rfl|exact rfl|fail)
/-! the first element for which something holds -/
def fiGo {α:Type} (p:α->Bool):List α->Nat->Int
 | [],_=>-1
 | x::l,i=>if p x = true then (i:Int) else fiGo p l (i + 1)
def idxL {α:Type} (p:α->Bool) (l:List α):Int:=fiGo p l 0
theorem fiGo_step {α:Type} (p:α->Bool) (l:List α) (d:α) {k:Nat} (h:k < l.length):fiGo p (l.drop k) k = if p (l.getD k d) = true then (k:Int) else fiGo p (l.drop (k + 1)) (k + 1):=by
 rw [List.drop_eq_getElem_cons h,fiGo]
 simp only [List.getD_eq_getElem?_getD,List.getElem?_eq_getElem h,Option.getD_some]
theorem fiGo_range {α:Type} (p:α->Bool):∀ (l:List α) (i:Nat),fiGo p l i = -1∨((i:Int)<=fiGo p l i/\fiGo p l i < (i + l.length:Nat))
 | [],i=>.inl rfl
 | x::l,i=>by
   rw [fiGo]
   split
   ·right;simp;omega
   ·rcases fiGo_range p l (i + 1) with h|h
    ·exact .inl h
    ·right;simp only [List.length_cons];omega
theorem idxL_range {α:Type} (p:α->Bool) (l:List α):idxL p l = -1∨(0<=idxL p l/\idxL p l < l.length):=by
 rcases fiGo_range p l 0 with h|h
 ·exact .inl h
 ·right;unfold idxL;omega
theorem fiGo_any {α:Type} (p:α->Bool):∀ (l:List α) (i:Nat),decide (0<=fiGo p l i) = l.any p
 | [],i=>by simp [fiGo]
 | x::l,i=>by
   rw [fiGo,List.any_cons]
   by_cases h:p x = true
   ·rw [if_pos h,h];simp
   ·rw [if_neg h,fiGo_any p l (i + 1)];simp at h;simp [h]
theorem idxL_any {α:Type} (p:α->Bool) (l:List α):decide (0<=idxL p l) = l.any p:=fiGo_any p l 0
theorem rng_t {a b x:Int} (h:a<=x/\x<=b):(!(decide (a<=x) && decide (x<=b))) = false:=by rw [decide_eq_true h.1,decide_eq_true h.2];rfl
theorem rng_f {a b x:Int} (h:¬ (a<=x/\x<=b)):(!(decide (a<=x) && decide (x<=b))) = true:=by
 by_cases h1:a<=x
 ·rw [decide_eq_true h1,decide_eq_false (λ h2=>h ⟨h1,h2⟩)];rfl
 ·rw [decide_eq_false h1];rfl
theorem any_step {α:Type} (p:α->Bool) (l:List α) (d:α) {k:Nat} (h:k < l.length):(l.drop k).any p = (p (l.getD k d) || (l.drop (k + 1)).any p):=by
 rw [List.drop_eq_getElem_cons h,List.any_cons]
 simp only [List.getD_eq_getElem?_getD,List.getElem?_eq_getElem h,Option.getD_some]
theorem map_takeF {α:Type} (f:α->AV) (l:List α) (m:Nat):List.take (m - 0) (List.drop 0 (l.map f)) = (l.take m).map f:=by simp
theorem getD_take {α:Type} (l:List α) (d:α) {k i:Nat} (h:k < i):(l.take i).getD k d = l.getD k d:=by
 rw [List.getD_eq_getElem?_getD,List.getD_eq_getElem?_getD,List.getElem?_take_of_lt h]
theorem list_ofP {α:Type} (f:α->AV) {p:α->Prop} {Q:AV->Prop} (h:∀ x,Q x->∃ a,x = f a/\p a):∀ xs:List AV,(∀ x∈xs,Q x)->∃ q:List α,xs = q.map f/\∀ a∈q,p a
 | [],_=>⟨[],rfl,λ a h=>by cases h⟩
 | x::xs,k=>by
   obtain ⟨a,rfl,ha⟩:=h x (k x (by simp))
   obtain ⟨q,rfl,hq⟩:=list_ofP f h xs (λ y hy=>k y (by simp [hy]))
   exact ⟨a::q,rfl,λ b hb=>by
    rcases List.mem_cons.1 hb with rfl|hb
    ·exact ha
    ·exact hq b hb⟩
theorem elemBytes {x:AV} {ei:TI} {n:Nat} (hk:Ut ei.k = false) (h:TyN ty (n + 2) 37 x.cells/\x = (if Ut ei.k then .agg x.cells else x.cells.getD 0 .undef)):∃ w:List UInt8,x = byA w/\w.length<=9223372036854775807:=by
 obtain ⟨⟨ls,h1,h2,h3⟩,h4⟩:=h
 have hl:leafs ty 8 37 = some [37]:=rfl
 rw [hl] at h1
 obtain rfl:=Option.some.inj h1
 rw [if_neg (by simp [hk])] at h4
 obtain ⟨a,ha⟩:=cells1 h2
 rw [ha] at h3 h4
 obtain ⟨e,xs,e1,rfl,e2,e3⟩:=h3 0 37 a rfl rfl
 obtain rfl:=Option.some.inj e1
 obtain ⟨q,rfl⟩:=bytes_of rfl rfl rfl xs e3
 rw [Q1] at e2
 exact ⟨q,h4,e2⟩
theorem rows_of (xs:List AV) {ei:TI} {n:Nat} (h:∀ x∈xs,TyN ty (n + 2) 37 x.cells/\x = (if Ut ei.k then .agg x.cells else x.cells.getD 0 .undef)) (hk:Ut ei.k = false:=by rfl):∃ q:List (List UInt8),xs = q.map byA/\∀ w∈q,w.length<=9223372036854775807 :=
 list_ofP byA (λ x hx=>elemBytes hk hx) xs h
end Go.Proofs.YtaolmfgpebncjaaGreat
