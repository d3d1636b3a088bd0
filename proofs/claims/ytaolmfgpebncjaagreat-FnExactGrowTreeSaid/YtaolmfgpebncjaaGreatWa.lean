/- Lists of numbers and of bytes, and what the helpers of the laws make of them. -/
import Derived.Test.YtaolmfgpebncjaaGreatTy
set_option maxRecDepth 100000
set_option maxHeartbeats 3200000
set_option linter.unusedSimpArgs false
set_option linter.unusedVariables false
namespace Go.Proofs.YtaolmfgpebncjaaGreat
open Go.Av
attribute [local irreducible] T thenQ Uv Y0 Uz WX retV retR Gt Gts GtsP Qs CV CR Av.Pure
theorem Uw:Tryz.prog.follows .mixedOrders = true:=by kernel_rfl
def szAfter (left n:Int):Int:=if left - n < 0 then -1 else left - n
theorem getD_mem {α:Type} (l:List α) (d:α) {k:Nat} (h:k < l.length):l.getD k d∈l:=by
 rw [List.getD_eq_getElem?_getD,List.getElem?_eq_getElem h]
 exact List.getElem_mem h
theorem byte_inj {a b:UInt8} (h:(a.toNat:Int) = (b.toNat:Int)):a = b:=UInt8.toNat.inj (by omega)
abbrev u8A (b:UInt8):AV:=.int .u8 (b.toNat:Int)
abbrev numA (x:Int):AV:=.int .i64 x
instance:ElemF u8A:=⟨λ a y hy=>by simp [u8A,AV.cells] at hy;subst hy;exact ⟨Qb _ _,rfl⟩⟩
instance:OwnF u8A:=⟨λ a y hy=>by simp [u8A,AV.cells] at hy;subst hy;exact (flat_int _ _).own⟩
instance:ElemF numA:=⟨λ a y hy=>by simp [numA,AV.cells] at hy;subst hy;exact ⟨Qb _ _,rfl⟩⟩
instance:OwnF numA:=⟨λ a y hy=>by simp [numA,AV.cells] at hy;subst hy;exact (flat_int _ _).own⟩
theorem szByteS_cv (q:List UInt8) (left:Int) (hx:q.length<=9223372036854775807) (h0:0<=left) (h1:left<=9223372036854775807) :
  CV Tryz.prog 65 [sl1 (q.map u8A),.int .i64 left] (· = .int .i64 (szAfter left q.length)):=by
 refine J7 Qc Tryz.func65 (by kernel_rfl) rfl 12 rfl (by simp) [.tmp 4] rfl ?_
 intro w0 ok0
 have hl:(q.map u8A).length = q.length:=by simp
 repeat' (first|refine Qh ?_|refine Q9 ?_|refine J8 ?_|refine Q8 Qc ?_|refine Qi ?_|refine Qw ?_|refine Qu ?_|(apply Jr;exact rfl;(· (repeat' (first|exact Qb _ _|exact Qj _|exact Qn _);done)))|refine T_if rfl (λ _=>?_) (λ _=>?_)|apply Qd|apply Q2|apply Jd|apply S_sub|(apply Qp;exact rfl;exact Q0 rfl)|exact Q0 rfl|(apply wrap_i64;omega;omega)|exact rfl|fail)
 all_goals (show AV.int _ _ = AV.int _ _;congr 1;unfold szAfter;simp only [decide_eq_true_eq,decide_eq_false_iff_not] at *;rw [<-hl];split<;>omega)
theorem eqByteS_cv (us vs:List UInt8) (h:us.length<=4611686018427387904):CV Tryz.prog 34 [sl1 (us.map u8A),sl1 (vs.map u8A)] (· = .bool (decide (us = vs))):=by
 refine J7 Qc Tryz.func34 (by kernel_rfl) rfl 26 rfl (by simp) [.tmp 4] rfl ?_
 intro w0 ok0
 have hl:(us.map u8A).length = us.length:=by simp
 have hl':(vs.map u8A).length = vs.length:=by simp
 by_cases hlen:us.length = vs.length
 ·have hc0:(!decide (((us.map u8A).length:Int) = ((vs.map u8A).length:Int))) = false:=by simp;omega
  repeat' (first|refine Qh ?_|refine Q9 ?_|refine Q8 Qc ?_|refine Qi ?_|refine Qw ?_|refine Qo ?_|(apply J9;exact rfl;(· (first|assumption|exact rfl)))|apply Qd|apply Q2|(apply Y4;exact Q0 rfl;exact Q0 rfl)|(apply Qp;exact rfl;exact Q0 rfl)|exact Q0 rfl|exact rfl|fail)
  refine T_rounds (α:=Nat) (λ k=>⟨[(0,sl1 (us.map u8A)),(1,sl1 (vs.map u8A)),(5,.int .i64 k)],[],0⟩)
   (λ k=>(us.map u8A).length - k) (λ k=>k<=(us.map u8A).length/\us.take k = vs.take k) 0 (Jp (by repeat' (first|exact Qy|refine Qr rfl ?_)) (by repeat' (first|exact Qz|refine Qt (by first|rfl|exact congrArg (λ l=>some (Box.mk l _ _ _)) hset) ?_)) (Nat.le_refl _)) (by simp) ?_
  rintro k ⟨hk,hpre⟩
  by_cases hkl:k < (us.map u8A).length
  ·have hc:decide ((k:Int) < ((us.map u8A).length:Int)) = true:=by simp only [decide_eq_true_eq];omega
   have hget:=Uy u8A us 0 (k:=k) (by omega)
   have hget':=Uy u8A vs 0 (k:=k) (by omega)
   repeat' (first|refine Qh ?_|refine Q9 ?_|refine J8 ?_|refine U9 ?_|refine Ui ?_|refine N_againR ?_|refine Q8 Qc ?_|(apply Ur Qc Uw;(· kernel_rfl))|refine Qi ?_|refine Qw ?_|refine Qu ?_|refine Qo ?_|(apply Jr;exact rfl;(· (repeat' (first|exact Qb _ _|exact Qj _|exact Qn _);done)))|(apply Jf;exact rfl;(· (first|assumption|exact rfl)))|refine T_if rfl (λ _=>?_) (λ _=>?_)|apply Qd|apply Q2|(apply Ue;exact rfl;exact Q0 rfl;exact rfl;(· (first|exact ⟨rfl,rfl⟩|exact ⟨rfl,trivial⟩|assumption)))|apply Jd|(apply Y4;exact Q0 rfl;exact Q0 rfl)|apply Y7|(apply Qp;exact rfl;exact Q0 rfl)|(apply Jk;exact rfl;exact rfl;exact Q0 rfl;exact Q0 rfl)|exact Q0 rfl|assumption|(apply wrap_i64;omega;omega)|(refine ⟨?_,?_⟩<;>omega)|exact rfl|fail)
   ·rename_i hne
    have hne':us.getD k 0≠vs.getD k 0:=by intro e;rw [e] at hne;simp at hne
    have:us≠vs:=by rintro rfl;exact hne' rfl
    simp [this]
   ·rename_i heq
    refine N_again (k + 1) (Jp (by repeat' (first|exact Qy|refine Qr rfl ?_)) (by repeat' (first|exact Qz|refine Qt (by first|rfl|exact congrArg (λ l=>some (Box.mk l _ _ _)) hset) ?_)) (Nat.le_refl _)) ⟨by omega,?_⟩ (by omega)
    exact take_step 0 (by omega) (by omega) hpre (by simp only [Bool.not_eq_false',decide_eq_true_eq] at heq;exact byte_inj heq)
  ·have hc:decide ((k:Int) < ((us.map u8A).length:Int)) = false:=by simp only [decide_eq_false_iff_not];omega
   obtain rfl:k = (us.map u8A).length:=by omega
   repeat' (first|refine Qh ?_|refine Q9 ?_|refine Ua ?_|refine Jt ?_|refine N_againE ?_|refine Q8 Qc ?_|refine Qi ?_|refine Qu ?_|refine Un ?_|(apply Jr;exact rfl;(· (repeat' (first|exact Qb _ _|exact Qj _|exact Qn _);done)))|(apply J9;exact rfl;(· (first|assumption|exact rfl)))|apply Qd|apply Q2|apply Jd|(apply Qp;exact rfl;exact Q0 rfl)|exact Q0 rfl|exact rfl|fail)
   rw [hl] at hpre
   rw [List.take_length,hlen,List.take_length] at hpre
   simp [hpre]
 ·have hc0:(!decide (((us.map u8A).length:Int) = ((vs.map u8A).length:Int))) = true:=by simp;omega
  repeat' (first|refine Qh ?_|refine Q9 ?_|refine J8 ?_|refine Q8 Qc ?_|refine Qi ?_|refine Qu ?_|(apply Jr;exact rfl;(· (repeat' (first|exact Qb _ _|exact Qj _|exact Qn _);done)))|(apply Jf;exact rfl;(· (first|assumption|exact rfl)))|apply Qd|apply Q2|(apply Y4;exact Q0 rfl;exact Q0 rfl)|(apply Qp;exact rfl;exact Q0 rfl)|exact Q0 rfl|exact rfl|fail)
  have:us≠vs:=by rintro rfl;exact hlen rfl
  simp [this]
end Go.Proofs.YtaolmfgpebncjaaGreat
