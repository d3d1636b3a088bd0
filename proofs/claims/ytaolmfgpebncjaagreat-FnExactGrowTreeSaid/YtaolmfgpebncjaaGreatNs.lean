/- Growing a tree: what the specification tells. -/
import Derived.Test.YtaolmfgpebncjaaGreatNr
import Derived.Test.YtaolmfgpebncjaaGreatGj
import Derived.Test.YtaolmfgpebncjaaGreatGk
set_option maxRecDepth 100000
set_option maxHeartbeats 3200000
set_option linter.unusedSimpArgs false
set_option linter.unusedVariables false
namespace Go.Proofs.YtaolmfgpebncjaaGreat
open Go.Av
attribute [local irreducible] T thenQ Uv Y0 Uz WX retV retR Gt Gts GtsP Qs CV CR Av.Pure
attribute [local irreducible] sha Y1 U1 Y8 Yh hdD zerosN rootL withN
theorem gw_zeroOut {tr:List Blk} {p time:Int} {ev:List (List UInt8)} {tries:Int} (h:gwCode tr p time ev tries≠0):gwOut tr p time ev tries = Blk0:=if_neg h
theorem specGrow_cv (tr:List Blk) (p time:Int) (ev:List (List UInt8)) (tries:Int) (hl:tr.length<=1048576) (he:∀ b∈tr,b.events.length<=1048576) (hv:Y9 List.length ev<=1048576) :
  CV Tryz.prog 18 [blkAS tr,.int .i64 p,.int .i64 time,Y2 ev,.int .i64 tries] (· = blkResA (gwCode tr p time ev tries) (gwOut tr p time ev tries)):=by
 refine J7 Qc Tryz.func18 (by kernel_rfl) rfl 57 rfl (by simp) [.cell 10 43] rfl ?_
 intro w0 ok0
 have hv2:ev.length<=1048576:=by unfold Y9 at hv;omega
 have c0:=specTreeFault_cv tr hl he
 by_cases g:Y1 tr = 0
 case neg =>
  have d0:(!decide (Y1 tr = 0)) = true:=by rw [decide_eq_false g];rfl
  have e:gwCode tr p time ev tries = Y1 tr:=if_pos g
  rw [gw_zeroOut (by rw [e];exact g),e]
  repeat' (first|refine Qh ?_|refine Q9 ?_|refine J8 ?_|refine Q8 Qc ?_|refine Qi ?_|refine Qu ?_|(apply E_X<;>repeat' (first|exact J4|(apply J3;exact rfl)|(apply Qx;(iterate 6 exact rfl))|(apply J5;(iterate 4 exact rfl);(· (first|assumption|exact rfl)))|exact Qa|apply Q3|apply Jb|(apply Uu;exact rfl;(· first|exact rfl|assumption|(simp [Q1];done)|(simp [Q1];omega)|omega);exact Q6.out)|(apply U8;exact Q6.out)|apply Uh|apply Ul|(apply View.ofEq;exact Q4.out)|exact rfl))|(apply Jf;exact rfl;(· (first|assumption|exact rfl)))|apply Qd|apply Q2|(apply Y4;exact Q0 rfl;exact Q0 rfl)|apply U0|(apply Jg;exact rfl;exact Q0 rfl;(iterate 4 exact rfl))|(apply S_build;(iterate 3 exact rfl);(· (repeat' (first|exact gtsP_nil|exact Q0 rfl|apply gtsP_cons)));(· (repeat' (first|exact BuildR.nil _|(apply BuildR.cons;(iterate 4 exact rfl);(· (first|nofun|assumption));(· (repeat' constructor)))))))|apply Qk (f:=52)|apply c0|exact Qa|apply Q3|(apply View.pure;exact Q4.out)|exact Jq.out|exact Q0 rfl|exact Ql|(apply Qg;exact Q0 rfl)|exact Q5 rfl rfl|exact rfl|fail)
 rw [g] at c0
 obtain ⟨g1,g2,_,hJ⟩:=tree_zero g
 have d0:(!decide ((0:Int) = 0)) = false:=rfl
 have hml:(tr.map blkA).length = tr.length:=by simp
 have hw:IntKind.wrap .i64 (((tr.map blkA).length:Int) - 1) = ((tr.map blkA).length:Int) - 1:=wrap_i64 (by omega) (by omega)
 have hhl:=headsL_length tr
 by_cases a1:0<=p/\p < (tr.length:Int)
 case neg =>
  have d1:(!(decide ((0:Int)<=p) && decide (p<=((tr.map blkA).length:Int) - 1))) = true:=by
   by_cases x:0<=p
   ·rw [decide_eq_false (show ¬ p<=((tr.map blkA).length:Int) - 1 by omega),Bool.and_false];rfl
   ·rw [decide_eq_false (show ¬ (0:Int)<=p by omega)];rfl
  have e:gwCode tr p time ev tries = 3:=by unfold gwCode;rw [if_neg (λ k=>k g),if_pos a1]
  rw [gw_zeroOut (by rw [e];decide),e]
  repeat' (first|refine Qh ?_|refine Q9 ?_|refine J8 ?_|refine Q8 Qc ?_|refine Qi ?_|refine Qw ?_|refine Qu ?_|(apply E_X<;>repeat' (first|exact J4|(apply J3;exact rfl)|(apply Qx;(iterate 6 exact rfl))|(apply J5;(iterate 4 exact rfl);(· (first|assumption|exact rfl)))|exact Qa|apply Q3|apply Jb|(apply Uu;exact rfl;(· first|exact rfl|assumption|(simp [Q1];done)|(simp [Q1];omega)|omega);exact Q6.out)|(apply U8;exact Q6.out)|apply Uh|apply Ul|(apply View.ofEq;exact Q4.out)|exact rfl))|(apply Jf;exact rfl;(· (first|assumption|exact rfl)))|(apply J9;exact rfl;(· (first|assumption|exact rfl)))|apply Qd|apply Q2|(apply Y4;exact Q0 rfl;exact Q0 rfl)|apply S_sub|apply S_not|(apply Qp;exact rfl;exact Q0 rfl)|apply U0|(apply Jg;exact rfl;exact Q0 rfl;(iterate 4 exact rfl))|(apply S_build;(iterate 3 exact rfl);(· (repeat' (first|exact gtsP_nil|exact Q0 rfl|apply gtsP_cons)));(· (repeat' (first|exact BuildR.nil _|(apply BuildR.cons;(iterate 4 exact rfl);(· (first|nofun|assumption));(· (repeat' constructor)))))))|apply Qk (f:=52)|apply c0|apply Qk (f:=53)|apply l1In_cv|exact Qa|apply Q3|(apply View.pure;exact Q4.out)|exact Jq.out|exact Q0 rfl|exact Ql|(apply Qg;exact Q0 rfl)|exact Q5 rfl rfl|assumption|exact rfl|fail)
 have d1:(!(decide ((0:Int)<=p) && decide (p<=((tr.map blkA).length:Int) - 1))) = false:=by rw [decide_eq_true (by omega),decide_eq_true (by omega)];rfl
 have c2:=l5Few_cv ev hv2
 by_cases a2:tr.length = 24
 ·have d2:decide ((24:Int)<=((tr.map blkA).length:Int)) = true:=decide_eq_true (by omega)
  have e:gwCode tr p time ev tries = 2:=by unfold gwCode;rw [if_neg (λ k=>k g),if_neg (λ k=>k a1),if_pos (.inl a2)]
  rw [gw_zeroOut (by rw [e];decide),e]
  repeat' (first|refine Qh ?_|refine Q9 ?_|refine J8 ?_|refine Q8 Qc ?_|refine Qi ?_|refine Qw ?_|refine Qu ?_|(apply E_X<;>repeat' (first|exact J4|(apply J3;exact rfl)|(apply Qx;(iterate 6 exact rfl))|(apply J5;(iterate 4 exact rfl);(· (first|assumption|exact rfl)))|exact Qa|apply Q3|apply Jb|(apply Uu;exact rfl;(· first|exact rfl|assumption|(simp [Q1];done)|(simp [Q1];omega)|omega);exact Q6.out)|(apply U8;exact Q6.out)|apply Uh|apply Ul|(apply View.ofEq;exact Q4.out)|exact rfl))|(apply Jf;exact rfl;(· (first|assumption|exact rfl)))|(apply J9;exact rfl;(· (first|assumption|exact rfl)))|(apply S_gfT';(iterate 3 exact rfl);(· (first|assumption|exact rfl)))|apply Qd|apply Q2|(apply S_pickT;exact Q0 rfl;(· (first|assumption|exact rfl)))|apply S_geq|(apply Y4;exact Q0 rfl;exact Q0 rfl)|apply S_sub|apply S_not|(apply Qp;exact rfl;exact Q0 rfl)|apply U0|(apply Jg;exact rfl;exact Q0 rfl;(iterate 4 exact rfl))|(apply S_build;(iterate 3 exact rfl);(· (repeat' (first|exact gtsP_nil|exact Q0 rfl|apply gtsP_cons)));(· (repeat' (first|exact BuildR.nil _|(apply BuildR.cons;(iterate 4 exact rfl);(· (first|nofun|assumption));(· (repeat' constructor)))))))|apply Qk (f:=52)|apply c0|apply Qk (f:=53)|apply l1In_cv|exact Qa|apply Q3|(apply View.pure;exact Q4.out)|exact Jq.out|exact Q0 rfl|exact Ql|(apply Qg;exact Q0 rfl)|exact Q5 rfl rfl|assumption|exact rfl|fail)
 have d2:decide ((24:Int)<=((tr.map blkA).length:Int)) = false:=decide_eq_false (by omega)
 by_cases a3:fewB ev = false
 ·rw [a3] at c2
  have d3:(!false) = true:=rfl
  have e:gwCode tr p time ev tries = 2:=by unfold gwCode;rw [if_neg (λ k=>k g),if_neg (λ k=>k a1),if_pos (.inr a3)]
  rw [gw_zeroOut (by rw [e];decide),e]
  repeat' (first|refine Qh ?_|refine Q9 ?_|refine J8 ?_|refine Q8 Qc ?_|refine Qi ?_|refine Qw ?_|refine Qu ?_|(apply E_X<;>repeat' (first|exact J4|(apply J3;exact rfl)|(apply Qx;(iterate 6 exact rfl))|(apply J5;(iterate 4 exact rfl);(· (first|assumption|exact rfl)))|exact Qa|apply Q3|apply Jb|(apply Uu;exact rfl;(· first|exact rfl|assumption|(simp [Q1];done)|(simp [Q1];omega)|omega);exact Q6.out)|(apply U8;exact Q6.out)|apply Uh|apply Ul|(apply View.ofEq;exact Q4.out)|exact rfl))|(apply Jf;exact rfl;(· (first|assumption|exact rfl)))|(apply J9;exact rfl;(· (first|assumption|exact rfl)))|(apply S_gf;exact rfl;exact rfl;(· (first|assumption|exact rfl)))|apply Qd|apply Q2|(apply Uj;exact Q0 rfl;(· (first|assumption|exact rfl)))|apply S_geq|(apply Y4;exact Q0 rfl;exact Q0 rfl)|apply S_sub|apply S_not|(apply Qp;exact rfl;exact Q0 rfl)|apply U0|(apply Jg;exact rfl;exact Q0 rfl;(iterate 4 exact rfl))|(apply S_build;(iterate 3 exact rfl);(· (repeat' (first|exact gtsP_nil|exact Q0 rfl|apply gtsP_cons)));(· (repeat' (first|exact BuildR.nil _|(apply BuildR.cons;(iterate 4 exact rfl);(· (first|nofun|assumption));(· (repeat' constructor)))))))|apply Qk (f:=52)|apply c0|apply Jl (f:=66)|apply c2|apply Qk (f:=53)|apply l1In_cv|exact Qa|apply Q3|(apply View.pure;exact Q4.out)|exact Jq.out|exact Qe.out|exact Q0 rfl|exact Ql|(apply Qg;exact Q0 rfl)|exact Q5 rfl rfl|assumption|exact rfl|fail)
 have b3:fewB ev = true:=by simpa using a3
 rw [b3] at c2
 have d3:(!true) = false:=rfl
 obtain ⟨n,rfl⟩:∃ n:Nat,p = (n:Int):=⟨p.toNat,by omega⟩
 have hn:n < tr.length:=by omega
 have hen:((n:Int)).toNat = n:=Int.toNat_natCast n
 have hin:(0:Int)<=(n:Int)/\(n:Int) < ((tr.map blkA).length:Int):=by omega
 have hget:=Uy blkA tr Blk0 (k:=n) (by omega)
 have hgh:=headsL_getD tr n hn
 have hgc:gwCode tr (n:Int) time ev tries = (if ¬ (((J2 tr).getD n Hd0).time < time/\time<=1099511627776) then 1 else if ¬ (0<=tries/\tries<=5000) then 3 else if ¬ 0<=Y8 (U1 tr n time ev) tries then 4 else if 0<=Yh ((J2 tr).map hdD) (hdD (withN (U1 tr n time ev) (Y8 (U1 tr n time ev) tries))) then 7 else 0):=by unfold gwCode;rw [if_neg (λ k=>k g),if_neg (λ k=>k a1),if_neg (λ k:_∨_=>k.elim a2 a3),hen]
 have hgo:gwOut tr (n:Int) time ev tries = if gwCode tr (n:Int) time ev tries = 0 then ⟨withN (U1 tr n time ev) (Y8 (U1 tr n time ev) tries),ev⟩ else Blk0:=by unfold gwOut;rw [hen]
 rw [hgo,hgc]
 clear hgc hgo
 have c4:=λ a4 a5=>l5Grow_cv tr n time ev tries hl hv g hn b3 a4 a5
 rw [hgh] at c4 ⊢
 generalize hX:tr.getD n Blk0 = X at *
 by_cases a4:X.head.time < time/\time<=1099511627776
 case neg =>
  rw [if_pos a4,if_neg (by decide)]
  by_cases y:time<=X.head.time
  ·have d4:=decide_eq_true y
   repeat' (first|refine Qh ?_|refine Q9 ?_|refine J8 ?_|refine Q8 Qc ?_|refine Qi ?_|refine Qw ?_|refine Qu ?_|(apply E_X<;>repeat' (first|exact J4|(apply J3;exact rfl)|(apply Qx;(iterate 6 exact rfl))|(apply J5;(iterate 4 exact rfl);(· (first|assumption|exact rfl)))|exact Qa|apply Q3|apply Jb|(apply Uu;exact rfl;(· first|exact rfl|assumption|(simp [Q1];done)|(simp [Q1];omega)|omega);exact Q6.out)|(apply U8;exact Q6.out)|apply Uh|apply Ul|(apply View.ofEq;exact Q4.out)|exact rfl))|(apply Jf;exact rfl;(· (first|assumption|exact rfl)))|(apply J9;exact rfl;(· (first|assumption|exact rfl)))|(apply S_gf;exact rfl;exact rfl;(· (first|assumption|exact rfl)))|(apply S_gfT';(iterate 3 exact rfl);(· (first|assumption|exact rfl)))|apply Qd|apply Q2|(apply S_pickT;exact Q0 rfl;(· (first|assumption|exact rfl)))|(apply Uj;exact Q0 rfl;(· (first|assumption|exact rfl)))|(apply Ue;exact rfl;exact Q0 rfl;exact rfl;(· (first|exact ⟨rfl,rfl⟩|exact ⟨rfl,trivial⟩|assumption)))|(apply S_fieldV;(iterate 4 exact rfl);exact Q0 rfl)|apply S_leq|apply S_geq|(apply Y4;exact Q0 rfl;exact Q0 rfl)|apply S_sub|apply S_not|(apply Qp;exact rfl;exact Q0 rfl)|apply U0|(apply Jg;exact rfl;exact Q0 rfl;(iterate 4 exact rfl))|(apply S_build;(iterate 3 exact rfl);(· (repeat' (first|exact gtsP_nil|exact Q0 rfl|apply gtsP_cons)));(· (repeat' (first|exact BuildR.nil _|(apply BuildR.cons;(iterate 4 exact rfl);(· (first|nofun|assumption));(· (repeat' constructor)))))))|(apply Jk;exact rfl;exact rfl;exact Q0 rfl;exact Q0 rfl)|apply Qk (f:=52)|apply c0|apply Jl (f:=66)|apply c2|apply Qk (f:=53)|apply l1In_cv|exact Qa|apply Q3|(apply View.pure;exact Q4.out)|exact Jq.out|exact Qe.out|exact Q0 rfl|exact Ql|(apply Qg;exact Q0 rfl)|exact Q5 rfl rfl|assumption|exact rfl|fail)
  ·have d4:=decide_eq_false y
   have d5:decide ((1099511627776:Int) < time) = true:=decide_eq_true (by omega)
   repeat' (first|refine Qh ?_|refine Q9 ?_|refine J8 ?_|refine Q8 Qc ?_|refine Qi ?_|refine Qw ?_|refine Qu ?_|(apply E_X<;>repeat' (first|exact J4|(apply J3;exact rfl)|(apply Qx;(iterate 6 exact rfl))|(apply J5;(iterate 4 exact rfl);(· (first|assumption|exact rfl)))|exact Qa|apply Q3|apply Jb|(apply Uu;exact rfl;(· first|exact rfl|assumption|(simp [Q1];done)|(simp [Q1];omega)|omega);exact Q6.out)|(apply U8;exact Q6.out)|apply Uh|apply Ul|(apply View.ofEq;exact Q4.out)|exact rfl))|(apply Jf;exact rfl;(· (first|assumption|exact rfl)))|(apply J9;exact rfl;(· (first|assumption|exact rfl)))|(apply S_gf;exact rfl;exact rfl;(· (first|assumption|exact rfl)))|apply Qd|apply Q2|(apply Uj;exact Q0 rfl;(· (first|assumption|exact rfl)))|(apply Ue;exact rfl;exact Q0 rfl;exact rfl;(· (first|exact ⟨rfl,rfl⟩|exact ⟨rfl,trivial⟩|assumption)))|(apply S_fieldV;(iterate 4 exact rfl);exact Q0 rfl)|apply S_leq|apply S_gtr|apply S_geq|(apply Y4;exact Q0 rfl;exact Q0 rfl)|apply S_sub|apply S_not|(apply Qp;exact rfl;exact Q0 rfl)|apply U0|(apply Jg;exact rfl;exact Q0 rfl;(iterate 4 exact rfl))|(apply S_build;(iterate 3 exact rfl);(· (repeat' (first|exact gtsP_nil|exact Q0 rfl|apply gtsP_cons)));(· (repeat' (first|exact BuildR.nil _|(apply BuildR.cons;(iterate 4 exact rfl);(· (first|nofun|assumption));(· (repeat' constructor)))))))|(apply Jk;exact rfl;exact rfl;exact Q0 rfl;exact Q0 rfl)|apply Qk (f:=52)|apply c0|apply Jl (f:=66)|apply c2|apply Qk (f:=53)|apply l1In_cv|exact Qa|apply Q3|(apply View.pure;exact Q4.out)|exact Jq.out|exact Qe.out|exact Q0 rfl|exact Ql|(apply Qg;exact Q0 rfl)|exact Q5 rfl rfl|assumption|exact rfl|fail)
 have d4:decide (time<=X.head.time) = false:=decide_eq_false (by omega)
 have d5:decide ((1099511627776:Int) < time) = false:=decide_eq_false (by omega)
 rw [if_neg (λ k=>k a4)]
 by_cases a5:0<=tries/\tries<=5000
 case neg =>
  have r5:=rng_f a5
  rw [if_pos a5,if_neg (by decide)]
  repeat' (first|refine Qh ?_|refine Q9 ?_|refine J8 ?_|refine Q8 Qc ?_|refine Qi ?_|refine Qw ?_|refine Qu ?_|(apply E_X<;>repeat' (first|exact J4|(apply J3;exact rfl)|(apply Qx;(iterate 6 exact rfl))|(apply J5;(iterate 4 exact rfl);(· (first|assumption|exact rfl)))|exact Qa|apply Q3|apply Jb|(apply Uu;exact rfl;(· first|exact rfl|assumption|(simp [Q1];done)|(simp [Q1];omega)|omega);exact Q6.out)|(apply U8;exact Q6.out)|apply Uh|apply Ul|(apply View.ofEq;exact Q4.out)|exact rfl))|(apply Jf;exact rfl;(· (first|assumption|exact rfl)))|(apply J9;exact rfl;(· (first|assumption|exact rfl)))|(apply S_gf;exact rfl;exact rfl;(· (first|assumption|exact rfl)))|apply Qd|apply Q2|(apply Uj;exact Q0 rfl;(· (first|assumption|exact rfl)))|(apply Ue;exact rfl;exact Q0 rfl;exact rfl;(· (first|exact ⟨rfl,rfl⟩|exact ⟨rfl,trivial⟩|assumption)))|(apply S_fieldV;(iterate 4 exact rfl);exact Q0 rfl)|apply S_leq|apply S_gtr|apply S_geq|(apply Y4;exact Q0 rfl;exact Q0 rfl)|apply S_sub|apply S_not|(apply Qp;exact rfl;exact Q0 rfl)|apply U0|(apply Jg;exact rfl;exact Q0 rfl;(iterate 4 exact rfl))|(apply S_build;(iterate 3 exact rfl);(· (repeat' (first|exact gtsP_nil|exact Q0 rfl|apply gtsP_cons)));(· (repeat' (first|exact BuildR.nil _|(apply BuildR.cons;(iterate 4 exact rfl);(· (first|nofun|assumption));(· (repeat' constructor)))))))|(apply Jk;exact rfl;exact rfl;exact Q0 rfl;exact Q0 rfl)|apply Qk (f:=52)|apply c0|apply Jl (f:=66)|apply c2|apply Qk (f:=53)|apply l1In_cv|exact Qa|apply Q3|(apply View.pure;exact Q4.out)|exact Jq.out|exact Qe.out|exact Q0 rfl|exact Ql|(apply Qg;exact Q0 rfl)|exact Q5 rfl rfl|assumption|exact rfl|fail)
 have r5:=rng_t a5
 rw [if_neg (λ k=>k a5)]
 have c5:=c4 a4 a5
 clear c4
 have hO:(if (if ¬ 0<=Y8 (U1 tr n time ev) tries then (4:Int) else if 0<=Yh ((J2 tr).map hdD) (hdD (withN (U1 tr n time ev) (Y8 (U1 tr n time ev) tries))) then 7 else 0) = 0 then (⟨withN (U1 tr n time ev) (Y8 (U1 tr n time ev) tries),ev⟩:Blk) else Blk0)
   = (if 0<=Y8 (U1 tr n time ev) tries/\¬ 0<=Yh ((J2 tr).map hdD) (hdD (withN (U1 tr n time ev) (Y8 (U1 tr n time ev) tries))) then ⟨withN (U1 tr n time ev) (Y8 (U1 tr n time ev) tries),ev⟩ else Blk0):=by
  by_cases q1:0<=Y8 (U1 tr n time ev) tries
  ·by_cases q2:0<=Yh ((J2 tr).map hdD) (hdD (withN (U1 tr n time ev) (Y8 (U1 tr n time ev) tries)))
   ·simp [q1,q2]
   ·simp [q1,q2]
  ·simp [q1]
 rw [hO]
 clear hO
 generalize (if ¬ 0<=Y8 (U1 tr n time ev) tries then (4:Int) else if 0<=Yh ((J2 tr).map hdD) (hdD (withN (U1 tr n time ev) (Y8 (U1 tr n time ev) tries))) then 7 else 0) = cc at *
 generalize (if 0<=Y8 (U1 tr n time ev) tries/\¬ 0<=Yh ((J2 tr).map hdD) (hdD (withN (U1 tr n time ev) (Y8 (U1 tr n time ev) tries))) then (⟨withN (U1 tr n time ev) (Y8 (U1 tr n time ev) tries),ev⟩:Blk) else Blk0) = oo at *
 repeat' (first|refine Qh ?_|refine Q9 ?_|refine Q8 Qc ?_|refine Qi ?_|refine Qw ?_|refine Qu ?_|(apply E_X<;>repeat' (first|exact J4|(apply J3;exact rfl)|(apply Qx;(iterate 6 exact rfl))|(apply J5;(iterate 4 exact rfl);(· (first|assumption|exact rfl)))|exact Qa|apply Q3|apply Jb|(apply Uu;exact rfl;(· first|exact rfl|assumption|(simp [Q1];done)|(simp [Q1];omega)|omega);exact Q6.out)|(apply U8;exact Q6.out)|apply Uh|apply Ul|(apply View.ofEq;exact Q4.out)|exact rfl))|(apply J9;exact rfl;(· (first|assumption|exact rfl)))|(apply S_gf;exact rfl;exact rfl;(· (first|assumption|exact rfl)))|apply Qd|apply Q2|(apply Uj;exact Q0 rfl;(· (first|assumption|exact rfl)))|(apply Ue;exact rfl;exact Q0 rfl;exact rfl;(· (first|exact ⟨rfl,rfl⟩|exact ⟨rfl,trivial⟩|assumption)))|(apply S_fieldV;(iterate 4 exact rfl);exact Q0 rfl)|apply S_leq|apply S_gtr|apply S_geq|(apply Y4;exact Q0 rfl;exact Q0 rfl)|apply S_sub|apply S_not|(apply Qp;exact rfl;exact Q0 rfl)|apply U0|(apply Jg;exact rfl;exact Q0 rfl;(iterate 4 exact rfl))|(apply Jk;exact rfl;exact rfl;exact Q0 rfl;exact Q0 rfl)|apply Qk (f:=52)|apply c0|apply Jl (f:=66)|apply c2|apply Jl|apply c5|apply l1In_cv|exact Qa|apply Q3|(apply View.pure;exact Q4.out)|exact Jq.out|exact Qe.out|exact Q0 rfl|exact Ql|(apply Qg;exact Q0 rfl)|exact Q5 rfl rfl|assumption|exact rfl|fail)
end Go.Proofs.YtaolmfgpebncjaaGreat
