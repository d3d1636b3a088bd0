/- Heads: the zeros that the next one must have. -/
import Derived.Test.YtaolmfgpebncjaaGreatZv
import Derived.Test.YtaolmfgpebncjaaGreatWb
set_option maxRecDepth 100000
set_option maxHeartbeats 3200000
set_option linter.unusedSimpArgs false
set_option linter.unusedVariables false
namespace Go.Proofs.YtaolmfgpebncjaaGreat
open Go.Av
attribute [local irreducible] T thenQ Uv Y0 Uz WX retV retR Gt Gts GtsP Qs CV CR Av.Pure
attribute [local irreducible] sha zerosL lz8 hdD Jw wayD parI
theorem l1Max_cv (a b:Int):CV Tryz.prog 87 [.int .i64 a,.int .i64 b] (· = .int .i64 (if b < a then a else b)):=by
 refine J7 Qc Tryz.func87 (by kernel_rfl) rfl 10 rfl (by simp) [.tmp 4] rfl ?_
 intro w0 ok0
 by_cases h:b < a
 ·have d:=decide_eq_true h
  rw [if_pos h]
  repeat' (first|refine Qh ?_|refine Q9 ?_|refine J8 ?_|refine Q8 Qc ?_|refine Qi ?_|refine Qu ?_|(apply Jr;exact rfl;(· (repeat' (first|exact Qb _ _|exact Qj _|exact Qn _);done)))|(apply Jf;exact rfl;(· (first|assumption|exact rfl)))|apply Qd|apply Q2|apply S_gtr|exact Q0 rfl|exact rfl|fail)
 ·have d:=decide_eq_false h
  rw [if_neg h]
  repeat' (first|refine Qh ?_|refine Q9 ?_|refine Q8 Qc ?_|refine Qi ?_|refine Qw ?_|refine Qu ?_|(apply Jr;exact rfl;(· (repeat' (first|exact Qb _ _|exact Qj _|exact Qn _);done)))|(apply J9;exact rfl;(· (first|assumption|exact rfl)))|apply Qd|apply Q2|apply S_gtr|exact Q0 rfl|exact rfl|fail)
def zerosN (c:List Hd):Int :=
 if c.length<=4∨¬ (c.getD (c.length - 1) Hd0).height.tmod 4 = 0 then (c.getD (c.length - 1) Hd0).zeros
 else if (c.getD (c.length - 1) Hd0).time - (c.getD (c.length - 5) Hd0).time < 20 then (if 40 < (c.getD (c.length - 1) Hd0).zeros + 1 then 40 else (c.getD (c.length - 1) Hd0).zeros + 1)
 else if 80 < (c.getD (c.length - 1) Hd0).time - (c.getD (c.length - 5) Hd0).time then (if (c.getD (c.length - 1) Hd0).zeros - 1 < 0 then 0 else (c.getD (c.length - 1) Hd0).zeros - 1)
 else (c.getD (c.length - 1) Hd0).zeros
theorem nextZeros_cv (c:List Hd) (h0:0 < c.length) (hl:c.length<=1000000) (hc:∀ x∈c,Jw x = 0):CV Tryz.prog 69 [hdAS c] (· = .int .i64 (zerosN c)):=by
 refine J7 Qc Tryz.func69 (by kernel_rfl) rfl 49 rfl (by simp) [.tmp 2] rfl ?_
 intro w0 ok0
 have hml:(c.map hdA).length = c.length:=by simp
 have w1:IntKind.wrap .i64 (((c.map hdA).length:Int) - 1) = ((c.length - 1:Nat):Int):=by rw [wrap_i64 (by omega) (by omega)];omega
 have g1:=Uy hdA c Hd0 (k:=c.length - 1) (by omega)
 have z1:=(hd_zero (hc _ (getD_mem c Hd0 (k:=c.length - 1) (by omega)))).2
 unfold zerosN
 by_cases a1:c.length<=4
 ·have d1:decide (((c.map hdA).length:Int)<=4) = true:=decide_eq_true (by omega)
  rw [if_pos (Or.inl a1)]
  generalize c.getD (c.length - 1) Hd0 = x at *
  repeat' (first|refine Qh ?_|refine Q9 ?_|refine J8 ?_|refine Q8 Qc ?_|refine Qi ?_|refine Qu ?_|(apply Jr;exact rfl;(· (repeat' (first|exact Qb _ _|exact Qj _|exact Qn _);done)))|(apply Jf;exact rfl;(· (first|assumption|exact rfl)))|(apply S_gfT';(iterate 3 exact rfl);(· (first|assumption|exact rfl)))|apply Qd|apply Q2|(apply S_pickT;exact Q0 rfl;(· (first|assumption|exact rfl)))|(apply Jj;exact rfl;exact Q0 rfl;(iterate 3 exact rfl);(· (first|exact ⟨rfl,rfl⟩|exact ⟨rfl,trivial⟩|assumption)))|(apply Uo;exact rfl;exact Q0 rfl;exact rfl;exact rfl)|(apply J6;(iterate 4 exact rfl);exact Q0 rfl)|apply S_leq|apply S_sub|(apply Qp;exact rfl;exact Q0 rfl)|apply U0|(apply Jg;exact rfl;exact Q0 rfl;(iterate 4 exact rfl))|(apply Jk;exact rfl;exact rfl;exact Q0 rfl;exact Q0 rfl)|exact Q0 rfl|exact Q5 rfl rfl|assumption|(refine ⟨?_,?_⟩<;>omega)|exact rfl|fail)
 ·have d1:decide (((c.map hdA).length:Int)<=4) = false:=decide_eq_false (by omega)
  by_cases a2:(c.getD (c.length - 1) Hd0).height.tmod 4 = 0
  ·have d2:(!decide ((c.getD (c.length - 1) Hd0).height.tmod 4 = 0)) = false:=by rw [decide_eq_true a2];rfl
   rw [if_neg (λ k=>k.elim a1 (λ k=>k a2))]
   have w2:IntKind.wrap .i64 (((c.length - 1:Nat):Int) - 4) = ((c.length - 5:Nat):Int):=by rw [wrap_i64 (by omega) (by omega)];omega
   have g2:=Uy hdA c Hd0 (k:=c.length - 5) (by omega)
   have z2:=(hd_zero (hc _ (getD_mem c Hd0 (k:=c.length - 5) (by omega)))).2
   have w3:IntKind.wrap .i64 ((c.getD (c.length - 1) Hd0).time - (c.getD (c.length - 5) Hd0).time) = (c.getD (c.length - 1) Hd0).time - (c.getD (c.length - 5) Hd0).time:=wrap_i64 (by omega) (by omega)
   have w4:IntKind.wrap .i64 ((c.getD (c.length - 1) Hd0).zeros + 1) = (c.getD (c.length - 1) Hd0).zeros + 1:=wrap_i64 (by omega) (by omega)
   have w5:IntKind.wrap .i64 ((c.getD (c.length - 1) Hd0).zeros - 1) = (c.getD (c.length - 1) Hd0).zeros - 1:=wrap_i64 (by omega) (by omega)
   by_cases a3:(c.getD (c.length - 1) Hd0).time - (c.getD (c.length - 5) Hd0).time < 20
   ·have d3:=decide_eq_true a3
    rw [if_pos a3]
    repeat' (first|refine Qh ?_|refine Q9 ?_|refine J8 ?_|refine Ui ?_|refine Q8 Qc ?_|(apply Ur Qc Uw;(· kernel_rfl))|refine Qi ?_|refine Qw ?_|refine Qu ?_|refine Qo ?_|(apply Jr;exact rfl;(· (repeat' (first|exact Qb _ _|exact Qj _|exact Qn _);done)))|(apply Jf;exact rfl;(· (first|assumption|exact rfl)))|(apply J9;exact rfl;(· (first|assumption|exact rfl)))|(apply S_gf;exact rfl;exact rfl;(· (first|assumption|exact rfl)))|apply Qd|apply Q2|(apply Uj;exact Q0 rfl;(· (first|assumption|exact rfl)))|(apply Jj;exact rfl;exact Q0 rfl;(iterate 3 exact rfl);(· (first|exact ⟨rfl,rfl⟩|exact ⟨rfl,trivial⟩|assumption)))|(apply Ue;exact rfl;exact Q0 rfl;exact rfl;(· (first|exact ⟨rfl,rfl⟩|exact ⟨rfl,trivial⟩|assumption)))|(apply Uo;exact rfl;exact Q0 rfl;exact rfl;exact rfl)|(apply J6;(iterate 4 exact rfl);exact Q0 rfl)|(apply S_fieldV;(iterate 4 exact rfl);exact Q0 rfl)|apply Jd|apply S_leq|(apply Y4;exact Q0 rfl;exact Q0 rfl)|apply Y7|apply S_sub|apply S_min|(apply Qp;exact rfl;exact Q0 rfl)|apply U0|(apply Jg;exact rfl;exact Q0 rfl;(iterate 4 exact rfl))|(apply S_remW;exact Q0 rfl;exact Q0 rfl;exact rfl;(· (first|exact Nat.le_of_ble_eq_true rfl|omega|decide)))|(apply Jk;exact rfl;exact rfl;exact Q0 rfl;exact Q0 rfl)|exact Q0 rfl|exact Q5 rfl rfl|assumption|(refine ⟨?_,?_⟩<;>omega)|exact rfl|fail)
   ·have d3:=decide_eq_false a3
    rw [if_neg a3]
    by_cases a4:80 < (c.getD (c.length - 1) Hd0).time - (c.getD (c.length - 5) Hd0).time
    ·have d4:=decide_eq_true a4
     rw [if_pos a4]
     repeat' (first|refine Qh ?_|refine Q9 ?_|refine J8 ?_|refine Ui ?_|refine Q8 Qc ?_|(apply Ur Qc Uw;(· kernel_rfl))|refine Qi ?_|refine Qw ?_|refine Qu ?_|refine Qo ?_|(apply Jr;exact rfl;(· (repeat' (first|exact Qb _ _|exact Qj _|exact Qn _);done)))|(apply Jf;exact rfl;(· (first|assumption|exact rfl)))|(apply J9;exact rfl;(· (first|assumption|exact rfl)))|(apply S_gf;exact rfl;exact rfl;(· (first|assumption|exact rfl)))|apply Qd|apply Q2|(apply Uj;exact Q0 rfl;(· (first|assumption|exact rfl)))|(apply Jj;exact rfl;exact Q0 rfl;(iterate 3 exact rfl);(· (first|exact ⟨rfl,rfl⟩|exact ⟨rfl,trivial⟩|assumption)))|(apply Ue;exact rfl;exact Q0 rfl;exact rfl;(· (first|exact ⟨rfl,rfl⟩|exact ⟨rfl,trivial⟩|assumption)))|(apply Uo;exact rfl;exact Q0 rfl;exact rfl;exact rfl)|(apply J6;(iterate 4 exact rfl);exact Q0 rfl)|(apply S_fieldV;(iterate 4 exact rfl);exact Q0 rfl)|apply Jd|apply S_leq|apply S_gtr|(apply Y4;exact Q0 rfl;exact Q0 rfl)|apply S_sub|apply S_max|(apply Qp;exact rfl;exact Q0 rfl)|apply U0|(apply Jg;exact rfl;exact Q0 rfl;(iterate 4 exact rfl))|(apply S_remW;exact Q0 rfl;exact Q0 rfl;exact rfl;(· (first|exact Nat.le_of_ble_eq_true rfl|omega|decide)))|(apply Jk;exact rfl;exact rfl;exact Q0 rfl;exact Q0 rfl)|exact Q0 rfl|exact Q5 rfl rfl|assumption|(refine ⟨?_,?_⟩<;>omega)|exact rfl|fail)
    ·have d4:=decide_eq_false a4
     rw [if_neg a4]
     repeat' (first|refine Qh ?_|refine Q9 ?_|refine U9 ?_|refine Q8 Qc ?_|(apply Ur Qc Uw;(· kernel_rfl))|refine Qi ?_|refine Qw ?_|refine Qu ?_|refine Qo ?_|(apply Jr;exact rfl;(· (repeat' (first|exact Qb _ _|exact Qj _|exact Qn _);done)))|(apply J9;exact rfl;(· (first|assumption|exact rfl)))|(apply S_gf;exact rfl;exact rfl;(· (first|assumption|exact rfl)))|apply Qd|apply Q2|(apply Uj;exact Q0 rfl;(· (first|assumption|exact rfl)))|(apply Jj;exact rfl;exact Q0 rfl;(iterate 3 exact rfl);(· (first|exact ⟨rfl,rfl⟩|exact ⟨rfl,trivial⟩|assumption)))|(apply Ue;exact rfl;exact Q0 rfl;exact rfl;(· (first|exact ⟨rfl,rfl⟩|exact ⟨rfl,trivial⟩|assumption)))|(apply Uo;exact rfl;exact Q0 rfl;exact rfl;exact rfl)|(apply J6;(iterate 4 exact rfl);exact Q0 rfl)|(apply S_fieldV;(iterate 4 exact rfl);exact Q0 rfl)|apply Jd|apply S_leq|apply S_gtr|(apply Y4;exact Q0 rfl;exact Q0 rfl)|apply S_sub|(apply Qp;exact rfl;exact Q0 rfl)|apply U0|(apply Jg;exact rfl;exact Q0 rfl;(iterate 4 exact rfl))|(apply S_remW;exact Q0 rfl;exact Q0 rfl;exact rfl;(· (first|exact Nat.le_of_ble_eq_true rfl|omega|decide)))|(apply Jk;exact rfl;exact rfl;exact Q0 rfl;exact Q0 rfl)|exact Q0 rfl|exact Q5 rfl rfl|assumption|(refine ⟨?_,?_⟩<;>omega)|exact rfl|fail)
  ·have d2:(!decide ((c.getD (c.length - 1) Hd0).height.tmod 4 = 0)) = true:=by rw [decide_eq_false a2];rfl
   rw [if_pos (Or.inr a2)]
   generalize c.getD (c.length - 1) Hd0 = x at *
   repeat' (first|refine Qh ?_|refine Q9 ?_|refine J8 ?_|refine Q8 Qc ?_|refine Qi ?_|refine Qu ?_|(apply Jr;exact rfl;(· (repeat' (first|exact Qb _ _|exact Qj _|exact Qn _);done)))|(apply Jf;exact rfl;(· (first|assumption|exact rfl)))|(apply S_gf;exact rfl;exact rfl;(· (first|assumption|exact rfl)))|apply Qd|apply Q2|(apply Uj;exact Q0 rfl;(· (first|assumption|exact rfl)))|(apply Jj;exact rfl;exact Q0 rfl;(iterate 3 exact rfl);(· (first|exact ⟨rfl,rfl⟩|exact ⟨rfl,trivial⟩|assumption)))|(apply Uo;exact rfl;exact Q0 rfl;exact rfl;exact rfl)|(apply J6;(iterate 4 exact rfl);exact Q0 rfl)|apply S_leq|(apply Y4;exact Q0 rfl;exact Q0 rfl)|apply S_sub|(apply Qp;exact rfl;exact Q0 rfl)|apply U0|(apply Jg;exact rfl;exact Q0 rfl;(iterate 4 exact rfl))|(apply S_remW;exact Q0 rfl;exact Q0 rfl;exact rfl;(· (first|exact Nat.le_of_ble_eq_true rfl|omega|decide)))|(apply Jk;exact rfl;exact rfl;exact Q0 rfl;exact Q0 rfl)|exact Q0 rfl|exact Q5 rfl rfl|assumption|(refine ⟨?_,?_⟩<;>omega)|exact rfl|fail)
theorem l5Zeros_cv (c:List Hd) (h0:0 < c.length) (hl:c.length<=1000000) (hc:∀ x∈c,Jw x = 0):CV Tryz.prog 122 [hdAS c] (· = .int .i64 (zerosN c)):=by
 refine J7 Qc Tryz.func122 (by kernel_rfl) rfl 47 rfl (by simp) [.tmp 2] rfl ?_
 intro w0 ok0
 have hml:(c.map hdA).length = c.length:=by simp
 have w1:IntKind.wrap .i64 (((c.map hdA).length:Int) - 1) = ((c.length - 1:Nat):Int):=by rw [wrap_i64 (by omega) (by omega)];omega
 have g1:=Uy hdA c Hd0 (k:=c.length - 1) (by omega)
 have z1:=(hd_zero (hc _ (getD_mem c Hd0 (k:=c.length - 1) (by omega)))).2
 unfold zerosN
 by_cases a1:c.length<=4
 ·have d1:decide (((c.map hdA).length:Int)<=4) = true:=decide_eq_true (by omega)
  rw [if_pos (Or.inl a1)]
  generalize c.getD (c.length - 1) Hd0 = x at *
  repeat' (first|refine Qh ?_|refine Q9 ?_|refine J8 ?_|refine Q8 Qc ?_|refine Qi ?_|refine Qu ?_|(apply Jr;exact rfl;(· (repeat' (first|exact Qb _ _|exact Qj _|exact Qn _);done)))|(apply Jf;exact rfl;(· (first|assumption|exact rfl)))|(apply S_gfT';(iterate 3 exact rfl);(· (first|assumption|exact rfl)))|apply Qd|apply Q2|(apply S_pickT;exact Q0 rfl;(· (first|assumption|exact rfl)))|(apply Jj;exact rfl;exact Q0 rfl;(iterate 3 exact rfl);(· (first|exact ⟨rfl,rfl⟩|exact ⟨rfl,trivial⟩|assumption)))|(apply Uo;exact rfl;exact Q0 rfl;exact rfl;exact rfl)|(apply J6;(iterate 4 exact rfl);exact Q0 rfl)|apply S_leq|apply S_sub|(apply Qp;exact rfl;exact Q0 rfl)|apply U0|(apply Jg;exact rfl;exact Q0 rfl;(iterate 4 exact rfl))|(apply Jk;exact rfl;exact rfl;exact Q0 rfl;exact Q0 rfl)|exact Q0 rfl|exact Q5 rfl rfl|assumption|(refine ⟨?_,?_⟩<;>omega)|exact rfl|fail)
 ·have d1:decide (((c.map hdA).length:Int)<=4) = false:=decide_eq_false (by omega)
  by_cases a2:(c.getD (c.length - 1) Hd0).height.tmod 4 = 0
  ·have d2:(!decide ((c.getD (c.length - 1) Hd0).height.tmod 4 = 0)) = false:=by rw [decide_eq_true a2];rfl
   rw [if_neg (λ k=>k.elim a1 (λ k=>k a2))]
   have w2:IntKind.wrap .i64 (((c.length - 1:Nat):Int) - 4) = ((c.length - 5:Nat):Int):=by rw [wrap_i64 (by omega) (by omega)];omega
   have g2:=Uy hdA c Hd0 (k:=c.length - 5) (by omega)
   have z2:=(hd_zero (hc _ (getD_mem c Hd0 (k:=c.length - 5) (by omega)))).2
   have w3:IntKind.wrap .i64 ((c.getD (c.length - 1) Hd0).time - (c.getD (c.length - 5) Hd0).time) = (c.getD (c.length - 1) Hd0).time - (c.getD (c.length - 5) Hd0).time:=wrap_i64 (by omega) (by omega)
   have w4:IntKind.wrap .i64 ((c.getD (c.length - 1) Hd0).zeros + 1) = (c.getD (c.length - 1) Hd0).zeros + 1:=wrap_i64 (by omega) (by omega)
   have w5:IntKind.wrap .i64 ((c.getD (c.length - 1) Hd0).zeros - 1) = (c.getD (c.length - 1) Hd0).zeros - 1:=wrap_i64 (by omega) (by omega)
   by_cases a3:(c.getD (c.length - 1) Hd0).time - (c.getD (c.length - 5) Hd0).time < 20
   ·have d3:=decide_eq_true a3
    rw [if_pos a3]
    have c0:=l1Min_cv 40 ((c.getD (c.length - 1) Hd0).zeros + 1)
    repeat' (first|refine Qh ?_|refine Q9 ?_|refine J8 ?_|refine Q8 Qc ?_|(apply Ur Qc Uw;(· kernel_rfl))|refine Qi ?_|refine Qw ?_|refine Qu ?_|(apply Jr;exact rfl;(· (repeat' (first|exact Qb _ _|exact Qj _|exact Qn _);done)))|(apply Jf;exact rfl;(· (first|assumption|exact rfl)))|(apply J9;exact rfl;(· (first|assumption|exact rfl)))|(apply S_gf;exact rfl;exact rfl;(· (first|assumption|exact rfl)))|apply Qd|apply Q2|(apply Uj;exact Q0 rfl;(· (first|assumption|exact rfl)))|(apply Jj;exact rfl;exact Q0 rfl;(iterate 3 exact rfl);(· (first|exact ⟨rfl,rfl⟩|exact ⟨rfl,trivial⟩|assumption)))|(apply Ue;exact rfl;exact Q0 rfl;exact rfl;(· (first|exact ⟨rfl,rfl⟩|exact ⟨rfl,trivial⟩|assumption)))|(apply Uo;exact rfl;exact Q0 rfl;exact rfl;exact rfl)|(apply J6;(iterate 4 exact rfl);exact Q0 rfl)|(apply S_fieldV;(iterate 4 exact rfl);exact Q0 rfl)|apply Jd|apply S_leq|(apply Y4;exact Q0 rfl;exact Q0 rfl)|apply Y7|apply S_sub|(apply Qp;exact rfl;exact Q0 rfl)|apply U0|(apply Jg;exact rfl;exact Q0 rfl;(iterate 4 exact rfl))|(apply S_remW;exact Q0 rfl;exact Q0 rfl;exact rfl;(· (first|exact Nat.le_of_ble_eq_true rfl|omega|decide)))|(apply Jk;exact rfl;exact rfl;exact Q0 rfl;exact Q0 rfl)|apply Qk (f:=166)|apply c0|exact Qa|apply Q3|(apply View.pure;exact Q4.out)|exact Jq.out|exact Q0 rfl|exact Ql|(apply Qg;exact Q0 rfl)|exact Q5 rfl rfl|assumption|(refine ⟨?_,?_⟩<;>omega)|exact rfl|fail)
   ·have d3:=decide_eq_false a3
    rw [if_neg a3]
    by_cases a4:80 < (c.getD (c.length - 1) Hd0).time - (c.getD (c.length - 5) Hd0).time
    ·have d4:=decide_eq_true a4
     rw [if_pos a4]
     have c0:=l1Max_cv 0 ((c.getD (c.length - 1) Hd0).zeros - 1)
     repeat' (first|refine Qh ?_|refine Q9 ?_|refine J8 ?_|refine Q8 Qc ?_|(apply Ur Qc Uw;(· kernel_rfl))|refine Qi ?_|refine Qw ?_|refine Qu ?_|(apply Jr;exact rfl;(· (repeat' (first|exact Qb _ _|exact Qj _|exact Qn _);done)))|(apply Jf;exact rfl;(· (first|assumption|exact rfl)))|(apply J9;exact rfl;(· (first|assumption|exact rfl)))|(apply S_gf;exact rfl;exact rfl;(· (first|assumption|exact rfl)))|apply Qd|apply Q2|(apply Uj;exact Q0 rfl;(· (first|assumption|exact rfl)))|(apply Jj;exact rfl;exact Q0 rfl;(iterate 3 exact rfl);(· (first|exact ⟨rfl,rfl⟩|exact ⟨rfl,trivial⟩|assumption)))|(apply Ue;exact rfl;exact Q0 rfl;exact rfl;(· (first|exact ⟨rfl,rfl⟩|exact ⟨rfl,trivial⟩|assumption)))|(apply Uo;exact rfl;exact Q0 rfl;exact rfl;exact rfl)|(apply J6;(iterate 4 exact rfl);exact Q0 rfl)|(apply S_fieldV;(iterate 4 exact rfl);exact Q0 rfl)|apply Jd|apply S_leq|apply S_gtr|(apply Y4;exact Q0 rfl;exact Q0 rfl)|apply S_sub|(apply Qp;exact rfl;exact Q0 rfl)|apply U0|(apply Jg;exact rfl;exact Q0 rfl;(iterate 4 exact rfl))|(apply S_remW;exact Q0 rfl;exact Q0 rfl;exact rfl;(· (first|exact Nat.le_of_ble_eq_true rfl|omega|decide)))|(apply Jk;exact rfl;exact rfl;exact Q0 rfl;exact Q0 rfl)|apply Qk (f:=87)|apply c0|exact Qa|apply Q3|(apply View.pure;exact Q4.out)|exact Jq.out|exact Q0 rfl|exact Ql|(apply Qg;exact Q0 rfl)|exact Q5 rfl rfl|assumption|(refine ⟨?_,?_⟩<;>omega)|exact rfl|fail)
    ·have d4:=decide_eq_false a4
     rw [if_neg a4]
     repeat' (first|refine Qh ?_|refine Q9 ?_|refine Q8 Qc ?_|(apply Ur Qc Uw;(· kernel_rfl))|refine Qi ?_|refine Qw ?_|refine Qu ?_|(apply Jr;exact rfl;(· (repeat' (first|exact Qb _ _|exact Qj _|exact Qn _);done)))|(apply J9;exact rfl;(· (first|assumption|exact rfl)))|(apply S_gf;exact rfl;exact rfl;(· (first|assumption|exact rfl)))|apply Qd|apply Q2|(apply Uj;exact Q0 rfl;(· (first|assumption|exact rfl)))|(apply Jj;exact rfl;exact Q0 rfl;(iterate 3 exact rfl);(· (first|exact ⟨rfl,rfl⟩|exact ⟨rfl,trivial⟩|assumption)))|(apply Ue;exact rfl;exact Q0 rfl;exact rfl;(· (first|exact ⟨rfl,rfl⟩|exact ⟨rfl,trivial⟩|assumption)))|(apply Uo;exact rfl;exact Q0 rfl;exact rfl;exact rfl)|(apply J6;(iterate 4 exact rfl);exact Q0 rfl)|(apply S_fieldV;(iterate 4 exact rfl);exact Q0 rfl)|apply Jd|apply S_leq|apply S_gtr|(apply Y4;exact Q0 rfl;exact Q0 rfl)|apply S_sub|(apply Qp;exact rfl;exact Q0 rfl)|apply U0|(apply Jg;exact rfl;exact Q0 rfl;(iterate 4 exact rfl))|(apply S_remW;exact Q0 rfl;exact Q0 rfl;exact rfl;(· (first|exact Nat.le_of_ble_eq_true rfl|omega|decide)))|(apply Jk;exact rfl;exact rfl;exact Q0 rfl;exact Q0 rfl)|exact Q0 rfl|exact Q5 rfl rfl|assumption|(refine ⟨?_,?_⟩<;>omega)|exact rfl|fail)
  ·have d2:(!decide ((c.getD (c.length - 1) Hd0).height.tmod 4 = 0)) = true:=by rw [decide_eq_false a2];rfl
   rw [if_pos (Or.inr a2)]
   generalize c.getD (c.length - 1) Hd0 = x at *
   repeat' (first|refine Qh ?_|refine Q9 ?_|refine J8 ?_|refine Q8 Qc ?_|refine Qi ?_|refine Qu ?_|(apply Jr;exact rfl;(· (repeat' (first|exact Qb _ _|exact Qj _|exact Qn _);done)))|(apply Jf;exact rfl;(· (first|assumption|exact rfl)))|(apply S_gf;exact rfl;exact rfl;(· (first|assumption|exact rfl)))|apply Qd|apply Q2|(apply Uj;exact Q0 rfl;(· (first|assumption|exact rfl)))|(apply Jj;exact rfl;exact Q0 rfl;(iterate 3 exact rfl);(· (first|exact ⟨rfl,rfl⟩|exact ⟨rfl,trivial⟩|assumption)))|(apply Uo;exact rfl;exact Q0 rfl;exact rfl;exact rfl)|(apply J6;(iterate 4 exact rfl);exact Q0 rfl)|apply S_leq|(apply Y4;exact Q0 rfl;exact Q0 rfl)|apply S_sub|(apply Qp;exact rfl;exact Q0 rfl)|apply U0|(apply Jg;exact rfl;exact Q0 rfl;(iterate 4 exact rfl))|(apply S_remW;exact Q0 rfl;exact Q0 rfl;exact rfl;(· (first|exact Nat.le_of_ble_eq_true rfl|omega|decide)))|(apply Jk;exact rfl;exact rfl;exact Q0 rfl;exact Q0 rfl)|exact Q0 rfl|exact Q5 rfl rfl|assumption|(refine ⟨?_,?_⟩<;>omega)|exact rfl|fail)
end Go.Proofs.YtaolmfgpebncjaaGreat
