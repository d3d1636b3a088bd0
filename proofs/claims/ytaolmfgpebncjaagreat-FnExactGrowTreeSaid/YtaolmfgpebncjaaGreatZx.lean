/- Heads: may one stand behind others. -/
import Derived.Test.YtaolmfgpebncjaaGreatZw
set_option maxRecDepth 100000
set_option maxHeartbeats 3200000
set_option linter.unusedSimpArgs false
set_option linter.unusedVariables false
namespace Go.Proofs.YtaolmfgpebncjaaGreat
open Go.Av
attribute [local irreducible] T thenQ Uv Y0 Uz WX retV retR Gt Gts GtsP Qs CV CR Av.Pure
attribute [local irreducible] sha zerosL lz8 hdD Jw parI zerosN
theorem place_any (hs:List Hd) (d:List UInt8):decide (0<=Yh (hs.map hdD) d) = hs.any λ y=>decide (hdD y = d):=by
 have:Yh (hs.map hdD) d = idxL (λ y=>decide (hdD y = d)) hs:=idxL_map hdD _ hs
 rw [this,idxL_any]
theorem chain_ok {hs:List Hd} (hJ:Joined hs) {p:Nat} (hp:p < hs.length):∀ y∈chainL hs p,Jw y = 0:=λ y hy=>by
 obtain ⟨j,hj,rfl⟩:=List.mem_map.1 hy
 have:=wayD_mem hs hp (List.mem_reverse.1 hj)
 exact hJ.1 _ (getD_mem hs Hd0 (by omega))
attribute [local irreducible] wayD chainL
def joinF (hs:List Hd) (x:Hd):Int :=
 if 0<=Yh (hs.map hdD) (hdD x) then 7 else if Yh (hs.map hdD) x.parent < 0 then 4
 else if ¬ x.height = (hs.getD (Yh (hs.map hdD) x.parent).toNat Hd0).height + 1∨x.time<=(hs.getD (Yh (hs.map hdD) x.parent).toNat Hd0).time∨¬ x.zeros = zerosN (chainL hs (Yh (hs.map hdD) x.parent).toNat) then 1 else 0
theorem joinFault_cv (hs:List Hd) (x:Hd) (hJ:Joined hs) (hx:Jw x = 0) (hl:hs.length<=100000):CV Tryz.prog 74 [hdAS hs,hdA x] (· = .int .i64 (joinF hs x)):=by
 refine J7 Qc Tryz.func74 (by kernel_rfl) rfl 47 rfl (by simp) [.tmp 4] rfl ?_
 intro w0 ok0
 have c0:=hdDigest_cv x hx
 have c1:=containsHd_cv 138 [.vp [byA (hdD x)]] hs (λ y=>decide (hdD y = hdD x)) inferInstance (by repeat' (first|exact Qa|apply Q3|(apply View.pure;exact Q4.out))) (by omega) (λ y hy=>joinFault1_cv y (hdD x) (hJ.1 y hy))
 rw [<-place_any] at c1
 have c2:=parentOf_cv hs x (by omega) hJ.1
 unfold joinF
 by_cases g0:0<=Yh (hs.map hdD) (hdD x)
 ·have d0:=decide_eq_true g0
  rw [if_pos g0]
  rw [d0] at c1
  repeat' (first|refine Qh ?_|refine Q9 ?_|refine J8 ?_|refine Q8 Qc ?_|refine Qi ?_|refine Qu ?_|(apply Jr;exact rfl;(· (repeat' (first|exact Qb _ _|exact Qj _|exact Qn _);done)))|(apply Jf;exact rfl;(· (first|assumption|exact rfl)))|apply Qd|apply Q2|(apply Yc;exact rfl;exact Q0 rfl;(iterate 6 exact rfl))|apply U0|apply Yd|(apply Jg;exact rfl;exact Q0 rfl;(iterate 4 exact rfl))|apply S_mkfn|apply Jl (f:=71)|apply c0|apply Qk (f:=137)|apply c1|exact Qa|apply Q3|(apply View.pure;exact Q4.out)|(apply view_ptr;exact rfl;exact rfl)|exact Jq.out|apply view_fn|exact Qe.out|exact Q0 rfl|exact Ql|(apply Qg;exact Q0 rfl)|exact Q5 rfl rfl|exact rfl|fail)
 have d0:=decide_eq_false g0
 rw [if_neg g0]
 rw [d0] at c1
 have hpr:=place_range (hs.map hdD) x.parent
 rw [List.length_map] at hpr
 by_cases g1:Yh (hs.map hdD) x.parent < 0
 ·have d1:=decide_eq_true g1
  rw [if_pos g1]
  repeat' (first|refine Qh ?_|refine Q9 ?_|refine J8 ?_|refine Q8 Qc ?_|refine Qi ?_|refine Qw ?_|refine Qu ?_|(apply Jr;exact rfl;(· (repeat' (first|exact Qb _ _|exact Qj _|exact Qn _);done)))|(apply Jf;exact rfl;(· (first|assumption|exact rfl)))|(apply J9;exact rfl;(· (first|assumption|exact rfl)))|apply Qd|apply Q2|(apply Yc;exact rfl;exact Q0 rfl;(iterate 6 exact rfl))|apply Jd|apply U0|apply Yd|(apply Jg;exact rfl;exact Q0 rfl;(iterate 4 exact rfl))|apply S_mkfn|apply Jl (f:=71)|apply c0|apply Qk (f:=137)|apply c1|apply Qk (f:=119)|apply c2|exact Qa|apply Q3|(apply View.pure;exact Q4.out)|(apply view_ptr;exact rfl;exact rfl)|exact Jq.out|apply view_fn|exact Qe.out|exact Q0 rfl|exact Ql|(apply Qg;exact Q0 rfl)|exact Q5 rfl rfl|exact rfl|fail)
 ·rw [if_neg g1]
  obtain ⟨p,hpe⟩:∃ p:Nat,Yh (hs.map hdD) x.parent = (p:Int):=⟨(Yh (hs.map hdD) x.parent).toNat,by omega⟩
  rw [hpe] at hpr c2 ⊢
  have d1:decide ((p:Int) < 0) = false:=decide_eq_false (by omega)
  have hp:p < hs.length:=by omega
  rw [Int.toNat_natCast]
  have hml:(hs.map hdA).length = hs.length:=by simp
  have hget:=Uy hdA hs Hd0 (k:=p) hp
  have hcl:=chainL_length hs p
  have hcl1:0 < (chainL hs p).length:=by rw [hcl];exact wayD_pos hs p
  have hcl2:(chainL hs p).length<=1000000:=by have:=wayD_le hs hp;omega
  have hcl3:∀ y∈chainL hs p,Jw y = 0:=chain_ok hJ hp
  have c3:=chainTo_cv hs p hJ hp (by omega)
  have c4:=headsAt_cv hs p hp hl
  have c5:=nextZeros_cv (chainL hs p) hcl1 hcl2 hcl3
  have zy:=(hd_zero (hJ.1 _ (getD_mem hs Hd0 hp))).2
  generalize zerosN (chainL hs p) = Z at *
  generalize hs.getD p Hd0 = y at *
  have w1:IntKind.wrap .i64 (y.height + 1) = y.height + 1:=wrap_i64 (by omega) (by omega)
  by_cases a1:x.height = y.height + 1
  ·have e1:(!decide (x.height = y.height + 1)) = false:=by rw [decide_eq_true a1];rfl
   by_cases a2:x.time<=y.time
   ·have e2:=decide_eq_true a2
    rw [if_pos (Or.inr (Or.inl a2))]
    repeat' (first|refine Qh ?_|refine Q9 ?_|refine J8 ?_|refine Q8 Qc ?_|(apply Ur Qc Uw;(· kernel_rfl))|refine Qi ?_|refine Qw ?_|refine Qu ?_|(apply Jr;exact rfl;(· (repeat' (first|exact Qb _ _|exact Qj _|exact Qn _);done)))|(apply Jf;exact rfl;(· (first|assumption|exact rfl)))|(apply J9;exact rfl;(· (first|assumption|exact rfl)))|(apply S_gf;exact rfl;exact rfl;(· (first|assumption|exact rfl)))|(apply S_gfT';(iterate 3 exact rfl);(· (first|assumption|exact rfl)))|apply Qd|apply Q2|(apply S_pickT;exact Q0 rfl;(· (first|assumption|exact rfl)))|(apply Uj;exact Q0 rfl;(· (first|assumption|exact rfl)))|(apply Jj;exact rfl;exact Q0 rfl;(iterate 3 exact rfl);(· (first|exact ⟨rfl,rfl⟩|exact ⟨rfl,trivial⟩|assumption)))|(apply Yc;exact rfl;exact Q0 rfl;(iterate 6 exact rfl))|(apply Ue;exact rfl;exact Q0 rfl;exact rfl;(· (first|exact ⟨rfl,rfl⟩|exact ⟨rfl,trivial⟩|assumption)))|(apply J6;(iterate 4 exact rfl);exact Q0 rfl)|(apply S_fieldV;(iterate 4 exact rfl);exact Q0 rfl)|apply Jd|apply S_leq|(apply Y4;exact Q0 rfl;exact Q0 rfl)|apply Y7|apply U0|apply Yd|(apply Jg;exact rfl;exact Q0 rfl;(iterate 4 exact rfl))|(apply Jk;exact rfl;exact rfl;exact Q0 rfl;exact Q0 rfl)|apply S_mkfn|apply Jl (f:=71)|apply c0|apply Qk (f:=137)|apply c1|apply Qk (f:=119)|apply c2|exact Qa|apply Q3|(apply View.pure;exact Q4.out)|(apply view_ptr;exact rfl;exact rfl)|exact Jq.out|apply view_fn|exact Qe.out|exact Q0 rfl|exact Ql|(apply Qg;exact Q0 rfl)|exact Q5 rfl rfl|assumption|(refine ⟨?_,?_⟩<;>omega)|exact rfl|fail)
   ·have e2:=decide_eq_false a2
    by_cases a3:x.zeros = Z
    ·have e3:(!decide (x.zeros = Z)) = false:=by rw [decide_eq_true a3];rfl
     rw [if_neg (λ k=>k.elim (λ k=>k a1) (λ k=>k.elim a2 (λ k=>k a3)))]
     repeat' (first|refine Qh ?_|refine Q9 ?_|refine Q8 Qc ?_|(apply Ur Qc Uw;(· kernel_rfl))|refine Qi ?_|refine Qw ?_|refine Qu ?_|(apply Jr;exact rfl;(· (repeat' (first|exact Qb _ _|exact Qj _|exact Qn _);done)))|(apply J9;exact rfl;(· (first|assumption|exact rfl)))|(apply S_gf;exact rfl;exact rfl;(· (first|assumption|exact rfl)))|apply Qd|apply Q2|(apply Uj;exact Q0 rfl;(· (first|assumption|exact rfl)))|(apply Jj;exact rfl;exact Q0 rfl;(iterate 3 exact rfl);(· (first|exact ⟨rfl,rfl⟩|exact ⟨rfl,trivial⟩|assumption)))|(apply Yc;exact rfl;exact Q0 rfl;(iterate 6 exact rfl))|(apply Ue;exact rfl;exact Q0 rfl;exact rfl;(· (first|exact ⟨rfl,rfl⟩|exact ⟨rfl,trivial⟩|assumption)))|(apply J6;(iterate 4 exact rfl);exact Q0 rfl)|(apply S_fieldV;(iterate 4 exact rfl);exact Q0 rfl)|apply Jd|apply S_leq|(apply Y4;exact Q0 rfl;exact Q0 rfl)|apply Y7|apply U0|apply Yd|(apply Jg;exact rfl;exact Q0 rfl;(iterate 4 exact rfl))|(apply Jk;exact rfl;exact rfl;exact Q0 rfl;exact Q0 rfl)|apply S_mkfn|apply Jl (f:=71)|apply c0|apply Qk (f:=137)|apply c1|apply Qk (f:=119)|apply c2|apply Jl (f:=58)|apply c3|apply Jl (f:=70)|apply c4|apply Qk (f:=69)|apply c5|exact Qa|apply Q3|(apply View.pure;exact Q4.out)|(apply view_ptr;exact rfl;exact rfl)|exact Jq.out|apply view_fn|exact Qe.out|exact Q0 rfl|exact Ql|(apply Qg;exact Q0 rfl)|exact Q5 rfl rfl|assumption|(refine ⟨?_,?_⟩<;>omega)|exact rfl|fail)
    ·have e3:(!decide (x.zeros = Z)) = true:=by rw [decide_eq_false a3];rfl
     rw [if_pos (Or.inr (Or.inr a3))]
     repeat' (first|refine Qh ?_|refine Q9 ?_|refine J8 ?_|refine Q8 Qc ?_|(apply Ur Qc Uw;(· kernel_rfl))|refine Qi ?_|refine Qw ?_|refine Qu ?_|(apply Jr;exact rfl;(· (repeat' (first|exact Qb _ _|exact Qj _|exact Qn _);done)))|(apply Jf;exact rfl;(· (first|assumption|exact rfl)))|(apply J9;exact rfl;(· (first|assumption|exact rfl)))|(apply S_gf;exact rfl;exact rfl;(· (first|assumption|exact rfl)))|apply Qd|apply Q2|(apply Uj;exact Q0 rfl;(· (first|assumption|exact rfl)))|(apply Jj;exact rfl;exact Q0 rfl;(iterate 3 exact rfl);(· (first|exact ⟨rfl,rfl⟩|exact ⟨rfl,trivial⟩|assumption)))|(apply Yc;exact rfl;exact Q0 rfl;(iterate 6 exact rfl))|(apply Ue;exact rfl;exact Q0 rfl;exact rfl;(· (first|exact ⟨rfl,rfl⟩|exact ⟨rfl,trivial⟩|assumption)))|(apply J6;(iterate 4 exact rfl);exact Q0 rfl)|(apply S_fieldV;(iterate 4 exact rfl);exact Q0 rfl)|apply Jd|apply S_leq|(apply Y4;exact Q0 rfl;exact Q0 rfl)|apply Y7|apply U0|apply Yd|(apply Jg;exact rfl;exact Q0 rfl;(iterate 4 exact rfl))|(apply Jk;exact rfl;exact rfl;exact Q0 rfl;exact Q0 rfl)|apply S_mkfn|apply Jl (f:=71)|apply c0|apply Qk (f:=137)|apply c1|apply Qk (f:=119)|apply c2|apply Jl (f:=58)|apply c3|apply Jl (f:=70)|apply c4|apply Qk (f:=69)|apply c5|exact Qa|apply Q3|(apply View.pure;exact Q4.out)|(apply view_ptr;exact rfl;exact rfl)|exact Jq.out|apply view_fn|exact Qe.out|exact Q0 rfl|exact Ql|(apply Qg;exact Q0 rfl)|exact Q5 rfl rfl|assumption|(refine ⟨?_,?_⟩<;>omega)|exact rfl|fail)
  ·have e1:(!decide (x.height = y.height + 1)) = true:=by rw [decide_eq_false a1];rfl
   rw [if_pos (Or.inl a1)]
   repeat' (first|refine Qh ?_|refine Q9 ?_|refine J8 ?_|refine Q8 Qc ?_|(apply Ur Qc Uw;(· kernel_rfl))|refine Qi ?_|refine Qw ?_|refine Qu ?_|(apply Jr;exact rfl;(· (repeat' (first|exact Qb _ _|exact Qj _|exact Qn _);done)))|(apply Jf;exact rfl;(· (first|assumption|exact rfl)))|(apply J9;exact rfl;(· (first|assumption|exact rfl)))|(apply S_gfT';(iterate 3 exact rfl);(· (first|assumption|exact rfl)))|apply Qd|apply Q2|(apply S_pickT;exact Q0 rfl;(· (first|assumption|exact rfl)))|(apply Jj;exact rfl;exact Q0 rfl;(iterate 3 exact rfl);(· (first|exact ⟨rfl,rfl⟩|exact ⟨rfl,trivial⟩|assumption)))|(apply Yc;exact rfl;exact Q0 rfl;(iterate 6 exact rfl))|(apply Ue;exact rfl;exact Q0 rfl;exact rfl;(· (first|exact ⟨rfl,rfl⟩|exact ⟨rfl,trivial⟩|assumption)))|(apply J6;(iterate 4 exact rfl);exact Q0 rfl)|(apply S_fieldV;(iterate 4 exact rfl);exact Q0 rfl)|apply Jd|(apply Y4;exact Q0 rfl;exact Q0 rfl)|apply Y7|apply U0|apply Yd|(apply Jg;exact rfl;exact Q0 rfl;(iterate 4 exact rfl))|(apply Jk;exact rfl;exact rfl;exact Q0 rfl;exact Q0 rfl)|apply S_mkfn|apply Jl (f:=71)|apply c0|apply Qk (f:=137)|apply c1|apply Qk (f:=119)|apply c2|exact Qa|apply Q3|(apply View.pure;exact Q4.out)|(apply view_ptr;exact rfl;exact rfl)|exact Jq.out|apply view_fn|exact Qe.out|exact Q0 rfl|exact Ql|(apply Qg;exact Q0 rfl)|exact Q5 rfl rfl|assumption|(refine ⟨?_,?_⟩<;>omega)|exact rfl|fail)
theorem l5Next_cv (hs:List Hd) (x:Hd) (hJ:Joined hs) (hx:Jw x = 0) (hl:hs.length<=100000):CV Tryz.prog 105 [hdAS hs,Y2 (hs.map hdD),hdA x] (· = .int .i64 (joinF hs x)):=by
 refine J7 Qc Tryz.func105 (by kernel_rfl) rfl 48 rfl (by simp) [.tmp 6] rfl ?_
 intro w0 ok0
 have hps:∀ y∈hs,y.parent.length<=1000000:=λ y hy=>by have:=(hd_zero (hJ.1 y hy)).1;omega
 have hws:∀ w∈hs.map hdD,w.length<=1000000:=λ w hw=>by
  obtain ⟨y,_,rfl⟩:=List.mem_map.1 hw
  rw [hdD_length];decide
 have hxl:=(hd_zero hx).1
 have hdl:=hdD_length x
 have c0:=l5Digest_cv x hx
 have c1:=l5Place_cv (hs.map hdD) (hdD x) (by rw [List.length_map];omega) hws (by omega)
 have c2:=l5Place_cv (hs.map hdD) x.parent (by rw [List.length_map];omega) hws (by omega)
 unfold joinF
 by_cases g0:0<=Yh (hs.map hdD) (hdD x)
 ·have d0:=decide_eq_true g0
  rw [if_pos g0]
  repeat' (first|refine Qh ?_|refine Q9 ?_|refine J8 ?_|refine Q8 Qc ?_|refine Qi ?_|refine Qu ?_|(apply Jr;exact rfl;(· (repeat' (first|exact Qb _ _|exact Qj _|exact Qn _);done)))|(apply Jf;exact rfl;(· (first|assumption|exact rfl)))|apply Qd|apply Q2|(apply Yc;exact rfl;exact Q0 rfl;(iterate 6 exact rfl))|apply S_geq|apply Yd|apply S_callW (f:=124)|apply c0|apply Qk (f:=111)|apply c1|exact Qa|apply Q3|(apply View.pure;exact Q4.out)|exact Jq.out|exact Q0 rfl|exact Ql|(apply Qg;exact Q0 rfl)|exact Q5 rfl rfl|exact rfl|fail)
 have d0:=decide_eq_false g0
 rw [if_neg g0]
 have hpr:=place_range (hs.map hdD) x.parent
 rw [List.length_map] at hpr
 by_cases g1:Yh (hs.map hdD) x.parent < 0
 ·have d1:=decide_eq_true g1
  rw [if_pos g1]
  repeat' (first|refine Qh ?_|refine Q9 ?_|refine J8 ?_|refine Q8 Qc ?_|refine Qi ?_|refine Qw ?_|refine Qu ?_|(apply Jr;exact rfl;(· (repeat' (first|exact Qb _ _|exact Qj _|exact Qn _);done)))|(apply Jf;exact rfl;(· (first|assumption|exact rfl)))|(apply J9;exact rfl;(· (first|assumption|exact rfl)))|apply Qd|apply Q2|(apply Jj;exact rfl;exact Q0 rfl;(iterate 3 exact rfl);(· (first|exact ⟨rfl,rfl⟩|exact ⟨rfl,trivial⟩|assumption)))|(apply Yc;exact rfl;exact Q0 rfl;(iterate 6 exact rfl))|(apply J6;(iterate 4 exact rfl);exact Q0 rfl)|apply Jd|apply S_geq|apply Yd|apply S_callW (f:=124)|apply c0|apply Qk (f:=111)|apply c1|apply c2|exact Qa|apply Q3|(apply View.pure;exact Q4.out)|exact Jq.out|exact Q0 rfl|exact Ql|(apply Qg;exact Q0 rfl)|exact Q5 rfl rfl|exact rfl|fail)
 ·rw [if_neg g1]
  obtain ⟨p,hpe⟩:∃ p:Nat,Yh (hs.map hdD) x.parent = (p:Int):=⟨(Yh (hs.map hdD) x.parent).toNat,by omega⟩
  rw [hpe] at hpr c2 ⊢
  have d1:decide ((p:Int) < 0) = false:=decide_eq_false (by omega)
  have hp:p < hs.length:=by omega
  rw [Int.toNat_natCast]
  have hml:(hs.map hdA).length = hs.length:=by simp
  have hget:=Uy hdA hs Hd0 (k:=p) hp
  have hcl:=chainL_length hs p
  have hcl1:0 < (chainL hs p).length:=by rw [hcl];exact wayD_pos hs p
  have hcl2:(chainL hs p).length<=1000000:=by have:=wayD_le hs hp;omega
  have hcl3:∀ y∈chainL hs p,Jw y = 0:=chain_ok hJ hp
  have c3:=l5Chain_cv hs p hJ hp hl hps
  have c4:=l5Zeros_cv (chainL hs p) hcl1 hcl2 hcl3
  have zy:=(hd_zero (hJ.1 _ (getD_mem hs Hd0 hp))).2
  generalize zerosN (chainL hs p) = Z at *
  generalize hs.getD p Hd0 = y at *
  have w1:IntKind.wrap .i64 (y.height + 1) = y.height + 1:=wrap_i64 (by omega) (by omega)
  by_cases a1:x.height = y.height + 1
  ·have e1:(!decide (x.height = y.height + 1)) = false:=by rw [decide_eq_true a1];rfl
   by_cases a2:x.time<=y.time
   ·have e2:=decide_eq_true a2
    rw [if_pos (Or.inr (Or.inl a2))]
    repeat' (first|refine Qh ?_|refine Q9 ?_|refine J8 ?_|refine Q8 Qc ?_|(apply Ur Qc Uw;(· kernel_rfl))|refine Qi ?_|refine Qw ?_|refine Qu ?_|(apply Jr;exact rfl;(· (repeat' (first|exact Qb _ _|exact Qj _|exact Qn _);done)))|(apply Jf;exact rfl;(· (first|assumption|exact rfl)))|(apply J9;exact rfl;(· (first|assumption|exact rfl)))|(apply S_gf;exact rfl;exact rfl;(· (first|assumption|exact rfl)))|(apply S_gfT';(iterate 3 exact rfl);(· (first|assumption|exact rfl)))|apply Qd|apply Q2|(apply S_pickT;exact Q0 rfl;(· (first|assumption|exact rfl)))|(apply Uj;exact Q0 rfl;(· (first|assumption|exact rfl)))|(apply Jj;exact rfl;exact Q0 rfl;(iterate 3 exact rfl);(· (first|exact ⟨rfl,rfl⟩|exact ⟨rfl,trivial⟩|assumption)))|(apply Yc;exact rfl;exact Q0 rfl;(iterate 6 exact rfl))|(apply Ue;exact rfl;exact Q0 rfl;exact rfl;(· (first|exact ⟨rfl,rfl⟩|exact ⟨rfl,trivial⟩|assumption)))|(apply J6;(iterate 4 exact rfl);exact Q0 rfl)|(apply S_fieldV;(iterate 4 exact rfl);exact Q0 rfl)|apply Jd|apply S_leq|apply S_geq|(apply Y4;exact Q0 rfl;exact Q0 rfl)|apply Y7|apply Yd|(apply Jk;exact rfl;exact rfl;exact Q0 rfl;exact Q0 rfl)|apply S_callW (f:=124)|apply c0|apply Qk (f:=111)|apply c1|apply c2|exact Qa|apply Q3|(apply View.pure;exact Q4.out)|exact Jq.out|exact Q0 rfl|exact Ql|(apply Qg;exact Q0 rfl)|exact Q5 rfl rfl|assumption|(refine ⟨?_,?_⟩<;>omega)|exact rfl|fail)
   ·have e2:=decide_eq_false a2
    by_cases a3:x.zeros = Z
    ·have e3:(!decide (x.zeros = Z)) = false:=by rw [decide_eq_true a3];rfl
     rw [if_neg (λ k=>k.elim (λ k=>k a1) (λ k=>k.elim a2 (λ k=>k a3)))]
     repeat' (first|refine Qh ?_|refine Q9 ?_|refine Q8 Qc ?_|(apply Ur Qc Uw;(· kernel_rfl))|refine Qi ?_|refine Qw ?_|refine Qu ?_|(apply Jr;exact rfl;(· (repeat' (first|exact Qb _ _|exact Qj _|exact Qn _);done)))|(apply J9;exact rfl;(· (first|assumption|exact rfl)))|(apply S_gf;exact rfl;exact rfl;(· (first|assumption|exact rfl)))|apply Qd|apply Q2|(apply Uj;exact Q0 rfl;(· (first|assumption|exact rfl)))|(apply Jj;exact rfl;exact Q0 rfl;(iterate 3 exact rfl);(· (first|exact ⟨rfl,rfl⟩|exact ⟨rfl,trivial⟩|assumption)))|(apply Yc;exact rfl;exact Q0 rfl;(iterate 6 exact rfl))|(apply Ue;exact rfl;exact Q0 rfl;exact rfl;(· (first|exact ⟨rfl,rfl⟩|exact ⟨rfl,trivial⟩|assumption)))|(apply J6;(iterate 4 exact rfl);exact Q0 rfl)|(apply S_fieldV;(iterate 4 exact rfl);exact Q0 rfl)|apply Jd|apply S_leq|apply S_geq|(apply Y4;exact Q0 rfl;exact Q0 rfl)|apply Y7|apply Yd|(apply Jk;exact rfl;exact rfl;exact Q0 rfl;exact Q0 rfl)|apply S_callW (f:=124)|apply c0|apply Qk (f:=111)|apply c1|apply c2|apply Jl (f:=121)|apply c3|apply Qk (f:=122)|apply c4|exact Qa|apply Q3|(apply View.pure;exact Q4.out)|exact Jq.out|exact Qe.out|exact Q0 rfl|exact Ql|(apply Qg;exact Q0 rfl)|exact Q5 rfl rfl|assumption|(refine ⟨?_,?_⟩<;>omega)|exact rfl|fail)
    ·have e3:(!decide (x.zeros = Z)) = true:=by rw [decide_eq_false a3];rfl
     rw [if_pos (Or.inr (Or.inr a3))]
     repeat' (first|refine Qh ?_|refine Q9 ?_|refine J8 ?_|refine Q8 Qc ?_|(apply Ur Qc Uw;(· kernel_rfl))|refine Qi ?_|refine Qw ?_|refine Qu ?_|(apply Jr;exact rfl;(· (repeat' (first|exact Qb _ _|exact Qj _|exact Qn _);done)))|(apply Jf;exact rfl;(· (first|assumption|exact rfl)))|(apply J9;exact rfl;(· (first|assumption|exact rfl)))|(apply S_gf;exact rfl;exact rfl;(· (first|assumption|exact rfl)))|apply Qd|apply Q2|(apply Uj;exact Q0 rfl;(· (first|assumption|exact rfl)))|(apply Jj;exact rfl;exact Q0 rfl;(iterate 3 exact rfl);(· (first|exact ⟨rfl,rfl⟩|exact ⟨rfl,trivial⟩|assumption)))|(apply Yc;exact rfl;exact Q0 rfl;(iterate 6 exact rfl))|(apply Ue;exact rfl;exact Q0 rfl;exact rfl;(· (first|exact ⟨rfl,rfl⟩|exact ⟨rfl,trivial⟩|assumption)))|(apply J6;(iterate 4 exact rfl);exact Q0 rfl)|(apply S_fieldV;(iterate 4 exact rfl);exact Q0 rfl)|apply Jd|apply S_leq|apply S_geq|(apply Y4;exact Q0 rfl;exact Q0 rfl)|apply Y7|apply Yd|(apply Jk;exact rfl;exact rfl;exact Q0 rfl;exact Q0 rfl)|apply S_callW (f:=124)|apply c0|apply Qk (f:=111)|apply c1|apply c2|apply Jl (f:=121)|apply c3|apply Qk (f:=122)|apply c4|exact Qa|apply Q3|(apply View.pure;exact Q4.out)|exact Jq.out|exact Qe.out|exact Q0 rfl|exact Ql|(apply Qg;exact Q0 rfl)|exact Q5 rfl rfl|assumption|(refine ⟨?_,?_⟩<;>omega)|exact rfl|fail)
  ·have e1:(!decide (x.height = y.height + 1)) = true:=by rw [decide_eq_false a1];rfl
   rw [if_pos (Or.inl a1)]
   repeat' (first|refine Qh ?_|refine Q9 ?_|refine J8 ?_|refine Q8 Qc ?_|(apply Ur Qc Uw;(· kernel_rfl))|refine Qi ?_|refine Qw ?_|refine Qu ?_|(apply Jr;exact rfl;(· (repeat' (first|exact Qb _ _|exact Qj _|exact Qn _);done)))|(apply Jf;exact rfl;(· (first|assumption|exact rfl)))|(apply J9;exact rfl;(· (first|assumption|exact rfl)))|(apply S_gfT';(iterate 3 exact rfl);(· (first|assumption|exact rfl)))|apply Qd|apply Q2|(apply S_pickT;exact Q0 rfl;(· (first|assumption|exact rfl)))|(apply Jj;exact rfl;exact Q0 rfl;(iterate 3 exact rfl);(· (first|exact ⟨rfl,rfl⟩|exact ⟨rfl,trivial⟩|assumption)))|(apply Yc;exact rfl;exact Q0 rfl;(iterate 6 exact rfl))|(apply Ue;exact rfl;exact Q0 rfl;exact rfl;(· (first|exact ⟨rfl,rfl⟩|exact ⟨rfl,trivial⟩|assumption)))|(apply J6;(iterate 4 exact rfl);exact Q0 rfl)|(apply S_fieldV;(iterate 4 exact rfl);exact Q0 rfl)|apply Jd|apply S_geq|(apply Y4;exact Q0 rfl;exact Q0 rfl)|apply Y7|apply Yd|(apply Jk;exact rfl;exact rfl;exact Q0 rfl;exact Q0 rfl)|apply S_callW (f:=124)|apply c0|apply Qk (f:=111)|apply c1|apply c2|exact Qa|apply Q3|(apply View.pure;exact Q4.out)|exact Jq.out|exact Q0 rfl|exact Ql|(apply Qg;exact Q0 rfl)|exact Q5 rfl rfl|assumption|(refine ⟨?_,?_⟩<;>omega)|exact rfl|fail)
end Go.Proofs.YtaolmfgpebncjaaGreat
