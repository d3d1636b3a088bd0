/- Growing a tree. -/
import Derived.Test.YtaolmfgpebncjaaGreatNl
import Derived.Test.YtaolmfgpebncjaaGreatNm
import Derived.Test.YtaolmfgpebncjaaGreatZzn
import Derived.Test.YtaolmfgpebncjaaGreatZzj
import Derived.Test.YtaolmfgpebncjaaGreatGj
import Derived.Test.YtaolmfgpebncjaaGreatGk
set_option maxRecDepth 100000
set_option maxHeartbeats 3200000
set_option linter.unusedSimpArgs false
set_option linter.unusedVariables false
namespace Go.Proofs.YtaolmfgpebncjaaGreat
open Go.Av
attribute [local irreducible] T thenQ Uv Y0 Uz WX retV retR Gt Gts GtsP Qs CV CR Av.Pure
attribute [local irreducible] sha Y1 U1 Y8 Yh hdD zerosN rootL withN
abbrev blkResA (c:Int) (x:Blk):AV:=.agg [.int .i64 c,byA x.head.parent,.int .i64 x.head.height,.int .i64 x.head.time,.int .i64 x.head.zeros,byA x.head.root,.int .i64 x.head.nonce,Y2 x.events]
abbrev blkResB (i j q:Nat) (c:Int) (x:Blk):AV:=.agg [.int .i64 c,.sl i 0 x.head.parent.length x.head.parent.length,.int .i64 x.head.height,.int .i64 x.head.time,.int .i64 x.head.zeros,.sl j 0 x.head.root.length x.head.root.length,.int .i64 x.head.nonce,.sl q 0 x.events.length x.events.length]
theorem mined_cv (x:Hd) (tries:Int) (h:Jw x = 0) (ht:0<=tries/\tries<=5000):CV Tryz.prog 73 [hdA x,.int .i64 tries] (· = .tup [hdA (withN x (if 0<=Y8 x tries then Y8 x tries else 0)),.bool (decide (0<=Y8 x tries))]):=by
 refine J7 Qc Tryz.func73 (by kernel_rfl) rfl 22 rfl (by simp) [.cell 4 39,.tmp 5] rfl ?_
 intro w0 ok0
 obtain ⟨h1,h2,h3⟩:=hdWs_pack h
 have c0:=hdWords_cv x
 have c1:CV Tryz.prog 129 [hdWA x] (· = sl1 (bA (Uk (hdWs x)))):=pack_cv (hdWs x) (by omega) (λ w hw=>by have:=h2 w hw;omega) (by omega)
 have c2:=easiest_cv (Uk (hdWs x)) x.zeros tries (by omega) ht
 have hM:mineL (Uk (hdWs x)) x.zeros tries = Y8 x tries:=by unfold Y8;rfl
 rw [hM] at c2
 have hw:∀ n,withN x n = ⟨x.parent,x.height,x.time,x.zeros,x.root,n⟩:=λ n=>by unfold withN;rfl
 rw [hw]
 generalize Y8 x tries = m at *
 generalize Uk (hdWs x) = P at *
 repeat' (first|refine Qh ?_|refine Q9 ?_|refine Q8 Qc ?_|(apply Ur Qc Uw;(· kernel_rfl))|refine Qi ?_|refine Qu ?_|(apply E_X<;>repeat' (first|exact J4|(apply J3;exact rfl)|(apply Qx;(iterate 6 exact rfl))|(apply J5;(iterate 4 exact rfl);(· (first|assumption|exact rfl)))|exact Qa|apply Q3|apply Jb|(apply Uu;exact rfl;(· first|exact rfl|assumption|(simp [Q1];done)|(simp [Q1];omega)|omega);exact Q6.out)|(apply U8;exact Q6.out)|apply Uh|apply Ul|(apply View.ofEq;exact Q4.out)|exact rfl))|apply Qd|apply Q2|(apply Jj;exact rfl;exact Q0 rfl;(iterate 3 exact rfl);(· (first|exact ⟨rfl,rfl⟩|exact ⟨rfl,trivial⟩|assumption)))|(apply Yc;exact rfl;exact Q0 rfl;(iterate 6 exact rfl))|(apply J6;(iterate 4 exact rfl);exact Q0 rfl)|apply S_extract|apply U0|apply Yd|(apply Jg;exact rfl;exact Q0 rfl;(iterate 4 exact rfl))|(apply S_storeF;exact rfl;exact Q0 rfl;(iterate 4 exact rfl);exact Q0 rfl;exact rfl;exact rfl;(· (repeat' constructor)))|apply Jl (f:=130)|apply c0|apply Jl (f:=129)|apply c1|apply Qk (f:=136)|apply c2|exact Qa|apply Q3|exact viewE_pure Q6.out|apply view_lsV|(apply View.pure;exact Q4.out)|exact Jq.out|exact Qe.out|exact Q0 rfl|exact Ql|(apply Qg;exact Q0 rfl)|exact Q5 rfl rfl|exact rfl|fail)
theorem specMineHead_cv (x:Hd) (tries:Int) (h1:x.parent.length<=1048576) (h2:x.root.length<=1048576):CV Tryz.prog 123 [hdA x,.int .i64 tries] (· = hdResA (mnCode x tries) (mnHead x tries)) :=
 (specMineHead_cr x tries h1 h2 0).toCV λ r bs n ⟨e1,e2,e3⟩=>by
  subst e1 e2
  exact Uh ⟨.pure (Qb _ _),view_slA rfl (Q1 _).symm (Yi _),.pure (Qb _ _),.pure (Qb _ _),.pure (Qb _ _),view_slA rfl (Q1 _).symm (Yi _),.pure (Qb _ _),trivial⟩
theorem implGrow_bad (tr:List Blk) (p time:Int) (ev:List (List UInt8)) (tries:Int) (hl:tr.length<=1048576) (he:∀ b∈tr,b.events.length<=1048576) (hv:ev.length<=1048576) (hc:gwCode tr p time ev tries≠0) :
  CV Tryz.prog 20 [blkAS tr,.int .i64 p,.int .i64 time,Y2 ev,.int .i64 tries] (· = blkResA (gwCode tr p time ev tries) Blk0):=by
 refine J7 Qc Tryz.func20 (by kernel_rfl) rfl 98 rfl (by simp) [.cell 10 43] rfl ?_
 intro w0 ok0
 have c0:=treeFault_cv tr hl he
 by_cases g:Y1 tr = 0
 case neg =>
  have d0:(!decide (Y1 tr = 0)) = true:=by rw [decide_eq_false g];rfl
  rw [show gwCode tr p time ev tries = Y1 tr from if_pos g]
  repeat' (first|refine Qh ?_|refine Q9 ?_|refine J8 ?_|refine Q8 Qc ?_|refine Qi ?_|refine Qu ?_|(apply E_X<;>repeat' (first|exact J4|(apply J3;exact rfl)|(apply Qx;(iterate 6 exact rfl))|(apply J5;(iterate 4 exact rfl);(· (first|assumption|exact rfl)))|exact Qa|apply Q3|apply Jb|(apply Uu;exact rfl;(· first|exact rfl|assumption|(simp [Q1];done)|(simp [Q1];omega)|omega);exact Q6.out)|(apply U8;exact Q6.out)|apply Uh|apply Ul|(apply View.ofEq;exact Q4.out)|exact rfl))|(apply Jf;exact rfl;(· (first|assumption|exact rfl)))|apply Qd|apply Q2|(apply Y4;exact Q0 rfl;exact Q0 rfl)|apply U0|(apply Jg;exact rfl;exact Q0 rfl;(iterate 4 exact rfl))|(apply S_build;(iterate 3 exact rfl);(· (repeat' (first|exact gtsP_nil|exact Q0 rfl|apply gtsP_cons)));(· (repeat' (first|exact BuildR.nil _|(apply BuildR.cons;(iterate 4 exact rfl);(· (first|nofun|assumption));(· (repeat' constructor)))))))|apply Qk (f:=39)|apply c0|exact Qa|apply Q3|(apply View.pure;exact Q4.out)|exact Jq.out|exact Q0 rfl|exact Ql|(apply Qg;exact Q0 rfl)|exact Q5 rfl rfl|exact rfl|fail)
 rw [g] at c0
 obtain ⟨g1,g2,_,hJ⟩:=tree_zero g
 have d0:(!decide ((0:Int) = 0)) = false:=rfl
 have hml:(tr.map blkA).length = tr.length:=by simp
 have hw:IntKind.wrap .i64 (((tr.map blkA).length:Int) - 1) = ((tr.map blkA).length:Int) - 1:=wrap_i64 (by omega) (by omega)
 have c1:=headsOf_cv tr hl
 have hhl:=headsL_length tr
 by_cases a1:0<=p/\p < (tr.length:Int)
 case neg =>
  have d1:(!(decide ((0:Int)<=p) && decide (p<=((tr.map blkA).length:Int) - 1))) = true:=by
   by_cases x:0<=p
   ·rw [decide_eq_false (show ¬ p<=((tr.map blkA).length:Int) - 1 by omega),Bool.and_false];rfl
   ·rw [decide_eq_false (show ¬ (0:Int)<=p by omega)];rfl
  rw [show gwCode tr p time ev tries = 3 by unfold gwCode;rw [if_neg (λ k=>k g),if_pos a1]]
  repeat' (first|refine Qh ?_|refine Q9 ?_|refine J8 ?_|refine Ui ?_|refine Q8 Qc ?_|refine Qi ?_|refine Qw ?_|refine Qu ?_|refine Qo ?_|(apply E_X<;>repeat' (first|exact J4|(apply J3;exact rfl)|(apply Qx;(iterate 6 exact rfl))|(apply J5;(iterate 4 exact rfl);(· (first|assumption|exact rfl)))|exact Qa|apply Q3|apply Jb|(apply Uu;exact rfl;(· first|exact rfl|assumption|(simp [Q1];done)|(simp [Q1];omega)|omega);exact Q6.out)|(apply U8;exact Q6.out)|apply Uh|apply Ul|(apply View.ofEq;exact Q4.out)|exact rfl))|(apply Jf;exact rfl;(· (first|assumption|exact rfl)))|(apply J9;exact rfl;(· (first|assumption|exact rfl)))|apply Qd|apply Q2|(apply Y4;exact Q0 rfl;exact Q0 rfl)|apply S_sub|apply S_not|(apply Qp;exact rfl;exact Q0 rfl)|apply U0|(apply Jg;exact rfl;exact Q0 rfl;(iterate 4 exact rfl))|(apply S_build;(iterate 3 exact rfl);(· (repeat' (first|exact gtsP_nil|exact Q0 rfl|apply gtsP_cons)));(· (repeat' (first|exact BuildR.nil _|(apply BuildR.cons;(iterate 4 exact rfl);(· (first|nofun|assumption));(· (repeat' constructor)))))))|apply Qk (f:=39)|apply c0|apply Jl (f:=59)|apply c1|apply Qk (f:=57)|apply in_cv|exact Qa|apply Q3|(apply View.pure;exact Q4.out)|exact Jq.out|exact Qe.out|exact Q0 rfl|exact Ql|(apply Qg;exact Q0 rfl)|exact Q5 rfl rfl|assumption|exact rfl|fail)
 have d1:(!(decide ((0:Int)<=p) && decide (p<=((tr.map blkA).length:Int) - 1))) = false:=by rw [decide_eq_true (by omega),decide_eq_true (by omega)];rfl
 have c2:=areEvents_cv ev hv
 by_cases a2:tr.length = 24
 ·have d2:decide (((tr.map blkA).length:Int) = 24) = true:=decide_eq_true (by omega)
  rw [show gwCode tr p time ev tries = 2 by unfold gwCode;rw [if_neg (λ k=>k g),if_neg (λ k=>k a1),if_pos (.inl a2)]]
  repeat' (first|refine Qh ?_|refine Q9 ?_|refine J8 ?_|refine Ui ?_|refine Q8 Qc ?_|refine Qi ?_|refine Qw ?_|refine Qu ?_|refine Qo ?_|(apply E_X<;>repeat' (first|exact J4|(apply J3;exact rfl)|(apply Qx;(iterate 6 exact rfl))|(apply J5;(iterate 4 exact rfl);(· (first|assumption|exact rfl)))|exact Qa|apply Q3|apply Jb|(apply Uu;exact rfl;(· first|exact rfl|assumption|(simp [Q1];done)|(simp [Q1];omega)|omega);exact Q6.out)|(apply U8;exact Q6.out)|apply Uh|apply Ul|(apply View.ofEq;exact Q4.out)|exact rfl))|(apply Jf;exact rfl;(· (first|assumption|exact rfl)))|(apply J9;exact rfl;(· (first|assumption|exact rfl)))|(apply S_gfT';(iterate 3 exact rfl);(· (first|assumption|exact rfl)))|apply Qd|apply Q2|(apply S_pickT;exact Q0 rfl;(· (first|assumption|exact rfl)))|(apply S_eql;exact Q0 rfl;exact Q0 rfl)|(apply Y4;exact Q0 rfl;exact Q0 rfl)|apply S_sub|apply S_not|(apply Qp;exact rfl;exact Q0 rfl)|apply U0|(apply Jg;exact rfl;exact Q0 rfl;(iterate 4 exact rfl))|(apply S_build;(iterate 3 exact rfl);(· (repeat' (first|exact gtsP_nil|exact Q0 rfl|apply gtsP_cons)));(· (repeat' (first|exact BuildR.nil _|(apply BuildR.cons;(iterate 4 exact rfl);(· (first|nofun|assumption));(· (repeat' constructor)))))))|apply Qk (f:=39)|apply c0|apply Jl (f:=59)|apply c1|apply Qk (f:=57)|apply in_cv|exact Qa|apply Q3|(apply View.pure;exact Q4.out)|exact Jq.out|exact Qe.out|exact Q0 rfl|exact Ql|(apply Qg;exact Q0 rfl)|exact Q5 rfl rfl|assumption|exact rfl|fail)
 have d2:decide (((tr.map blkA).length:Int) = 24) = false:=decide_eq_false (by omega)
 by_cases a3:fewB ev = false
 ·rw [a3] at c2
  have d3:(!false) = true:=rfl
  rw [show gwCode tr p time ev tries = 2 by unfold gwCode;rw [if_neg (λ k=>k g),if_neg (λ k=>k a1),if_pos (.inr a3)]]
  repeat' (first|refine Qh ?_|refine Q9 ?_|refine J8 ?_|refine Ui ?_|refine Q8 Qc ?_|refine Qi ?_|refine Qw ?_|refine Qu ?_|refine Qo ?_|(apply E_X<;>repeat' (first|exact J4|(apply J3;exact rfl)|(apply Qx;(iterate 6 exact rfl))|(apply J5;(iterate 4 exact rfl);(· (first|assumption|exact rfl)))|exact Qa|apply Q3|apply Jb|(apply Uu;exact rfl;(· first|exact rfl|assumption|(simp [Q1];done)|(simp [Q1];omega)|omega);exact Q6.out)|(apply U8;exact Q6.out)|apply Uh|apply Ul|(apply View.ofEq;exact Q4.out)|exact rfl))|(apply Jf;exact rfl;(· (first|assumption|exact rfl)))|(apply J9;exact rfl;(· (first|assumption|exact rfl)))|(apply S_gf;exact rfl;exact rfl;(· (first|assumption|exact rfl)))|apply Qd|apply Q2|(apply Uj;exact Q0 rfl;(· (first|assumption|exact rfl)))|(apply S_eql;exact Q0 rfl;exact Q0 rfl)|(apply Y4;exact Q0 rfl;exact Q0 rfl)|apply S_sub|apply S_not|(apply Qp;exact rfl;exact Q0 rfl)|apply U0|(apply Jg;exact rfl;exact Q0 rfl;(iterate 4 exact rfl))|(apply S_build;(iterate 3 exact rfl);(· (repeat' (first|exact gtsP_nil|exact Q0 rfl|apply gtsP_cons)));(· (repeat' (first|exact BuildR.nil _|(apply BuildR.cons;(iterate 4 exact rfl);(· (first|nofun|assumption));(· (repeat' constructor)))))))|apply Qk (f:=39)|apply c0|apply Jl (f:=59)|apply c1|apply Jl (f:=68)|apply c2|apply Qk (f:=57)|apply in_cv|exact Qa|apply Q3|(apply View.pure;exact Q4.out)|exact Jq.out|exact Qe.out|exact Q0 rfl|exact Ql|(apply Qg;exact Q0 rfl)|exact Q5 rfl rfl|assumption|exact rfl|fail)
 have b3:fewB ev = true:=by simpa using a3
 rw [b3] at c2
 have d3:(!true) = false:=rfl
 obtain ⟨n,rfl⟩:∃ n:Nat,p = (n:Int):=⟨p.toNat,by omega⟩
 have hn:n < tr.length:=by omega
 have hen:((n:Int)).toNat = n:=Int.toNat_natCast n
 have hget:=Uy hdA (J2 tr) Hd0 (k:=n) (by omega)
 have hmh:((J2 tr).map hdA).length = tr.length:=by rw [List.length_map,hhl]
 have hin:(0:Int)<=(n:Int)/\(n:Int) < (((J2 tr).map hdA).length:Int):=by omega
 have hm:(J2 tr).getD n Hd0∈J2 tr:=getD_mem _ Hd0 (by omega)
 have hx0:=hJ.1 _ hm
 obtain ⟨_,k1,k2,_,_⟩:=hd_zero hx0
 have hgf:=λ ht=>gw_fault (tr:=tr) (p:=n) (time:=time) (ev:=ev) g hn ht
 have hht:=tree_height g n hn
 have hgw:U1 tr n time ev = ⟨hdD ((J2 tr).getD n Hd0),((J2 tr).getD n Hd0).height + 1,time,zerosN (chainL (J2 tr) n),rootL ev,0⟩:=by unfold U1;rfl
 have c3:=hdDigest_cv ((J2 tr).getD n Hd0) hx0
 have c4:=chainTo_cv (J2 tr) n hJ (by omega) (by omega)
 have c5:=headsAt_cv (J2 tr) n (by omega) (by omega)
 have hcl:0 < (chainL (J2 tr) n).length:=by rw [chainL_length];exact wayD_pos _ _
 have hcl2:(chainL (J2 tr) n).length<=1000000:=by rw [chainL_length];have:=wayD_le (J2 tr) (i:=n) (by omega);omega
 have c6:=nextZeros_cv (chainL (J2 tr) n) hcl hcl2 (chain_ok hJ (by omega))
 have hfw:=few_len b3
 have c7:(CV Tryz.prog 72 [Y2 ev] (· = sl1 (bA (rootL ev)))):=rootOf_cv _ ev rfl (by omega) (λ w hw=>by have:=hfw.2 w hw;omega)
 have hrl:=rootL_length ev
 have hdl:=hdD_length ((J2 tr).getD n Hd0)
 have hgc:gwCode tr (n:Int) time ev tries = (if ¬ (((J2 tr).getD n Hd0).time < time/\time<=1099511627776) then 1 else if ¬ (0<=tries/\tries<=5000) then 3 else if ¬ 0<=Y8 (U1 tr n time ev) tries then 4 else if 0<=Yh ((J2 tr).map hdD) (hdD (withN (U1 tr n time ev) (Y8 (U1 tr n time ev) tries))) then 7 else 0):=by unfold gwCode;rw [if_neg (λ k=>k g),if_neg (λ k=>k a1),if_neg (λ k:_∨_=>k.elim a2 a3),hen]
 rw [hgc] at hc ⊢
 clear hgc
 have hq:=λ m (hm:0<=m/\m<=5000) ht=>joinFault_cv (J2 tr) (withN (U1 tr n time ev) m) hJ (withN_fault (hgf ht) ⟨hm.1,by omega⟩) (by omega)
 generalize (J2 tr).getD n Hd0 = x at *
 have w1:IntKind.wrap .i64 (x.time + 1) = x.time + 1:=wrap_i64 (by omega) (by omega)
 have w2:IntKind.wrap .i64 (x.height + 1) = x.height + 1:=wrap_i64 (by omega) (by omega)
 by_cases a4:x.time < time/\time<=1099511627776
 case neg =>
  have d4:(!(decide (x.time + 1<=time) && decide (time<=1099511627776))) = true:=by
   by_cases y:x.time + 1<=time
   ·rw [decide_eq_false (show ¬ time<=1099511627776 by omega),Bool.and_false];rfl
   ·rw [decide_eq_false y];rfl
  rw [if_pos a4]
  repeat' (first|refine Qh ?_|refine Q9 ?_|refine J8 ?_|refine Ui ?_|refine Q8 Qc ?_|refine Qi ?_|refine Qw ?_|refine Qu ?_|refine Qo ?_|(apply E_X<;>repeat' (first|exact J4|(apply J3;exact rfl)|(apply Qx;(iterate 6 exact rfl))|(apply J5;(iterate 4 exact rfl);(· (first|assumption|exact rfl)))|exact Qa|apply Q3|apply Jb|(apply Uu;exact rfl;(· first|exact rfl|assumption|(simp [Q1];done)|(simp [Q1];omega)|omega);exact Q6.out)|(apply U8;exact Q6.out)|apply Uh|apply Ul|(apply View.ofEq;exact Q4.out)|exact rfl))|(apply Jf;exact rfl;(· (first|assumption|exact rfl)))|(apply J9;exact rfl;(· (first|assumption|exact rfl)))|(apply S_gf;exact rfl;exact rfl;(· (first|assumption|exact rfl)))|apply Qd|apply Q2|(apply Uj;exact Q0 rfl;(· (first|assumption|exact rfl)))|(apply Ue;exact rfl;exact Q0 rfl;exact rfl;(· (first|exact ⟨rfl,rfl⟩|exact ⟨rfl,trivial⟩|assumption)))|(apply S_fieldV;(iterate 4 exact rfl);exact Q0 rfl)|(apply S_eql;exact Q0 rfl;exact Q0 rfl)|(apply Y4;exact Q0 rfl;exact Q0 rfl)|apply Y7|apply S_sub|apply S_not|(apply Qp;exact rfl;exact Q0 rfl)|apply U0|(apply Jg;exact rfl;exact Q0 rfl;(iterate 4 exact rfl))|(apply S_build;(iterate 3 exact rfl);(· (repeat' (first|exact gtsP_nil|exact Q0 rfl|apply gtsP_cons)));(· (repeat' (first|exact BuildR.nil _|(apply BuildR.cons;(iterate 4 exact rfl);(· (first|nofun|assumption));(· (repeat' constructor)))))))|(apply Jk;exact rfl;exact rfl;exact Q0 rfl;exact Q0 rfl)|apply Qk (f:=39)|apply c0|apply Jl (f:=59)|apply c1|apply Jl (f:=68)|apply c2|apply Qk (f:=57)|apply in_cv|exact Qa|apply Q3|(apply View.pure;exact Q4.out)|exact Jq.out|exact Qe.out|exact Q0 rfl|exact Ql|(apply Qg;exact Q0 rfl)|exact Q5 rfl rfl|assumption|exact rfl|fail)
 have d4:(!(decide (x.time + 1<=time) && decide (time<=1099511627776))) = false:=by rw [decide_eq_true (by omega),decide_eq_true (by omega)];rfl
 by_cases a5:0<=tries/\tries<=5000
 case neg =>
  have r5:=rng_f a5
  rw [if_neg (λ k=>k a4),if_pos a5]
  repeat' (first|refine Qh ?_|refine Q9 ?_|refine J8 ?_|refine Ui ?_|refine Q8 Qc ?_|refine Qi ?_|refine Qw ?_|refine Qu ?_|refine Qo ?_|(apply E_X<;>repeat' (first|exact J4|(apply J3;exact rfl)|(apply Qx;(iterate 6 exact rfl))|(apply J5;(iterate 4 exact rfl);(· (first|assumption|exact rfl)))|exact Qa|apply Q3|apply Jb|(apply Uu;exact rfl;(· first|exact rfl|assumption|(simp [Q1];done)|(simp [Q1];omega)|omega);exact Q6.out)|(apply U8;exact Q6.out)|apply Uh|apply Ul|(apply View.ofEq;exact Q4.out)|exact rfl))|(apply Jf;exact rfl;(· (first|assumption|exact rfl)))|(apply J9;exact rfl;(· (first|assumption|exact rfl)))|(apply S_gf;exact rfl;exact rfl;(· (first|assumption|exact rfl)))|apply Qd|apply Q2|(apply Uj;exact Q0 rfl;(· (first|assumption|exact rfl)))|(apply Ue;exact rfl;exact Q0 rfl;exact rfl;(· (first|exact ⟨rfl,rfl⟩|exact ⟨rfl,trivial⟩|assumption)))|(apply S_fieldV;(iterate 4 exact rfl);exact Q0 rfl)|(apply S_eql;exact Q0 rfl;exact Q0 rfl)|(apply Y4;exact Q0 rfl;exact Q0 rfl)|apply Y7|apply S_sub|apply S_not|(apply Qp;exact rfl;exact Q0 rfl)|apply U0|(apply Jg;exact rfl;exact Q0 rfl;(iterate 4 exact rfl))|(apply S_build;(iterate 3 exact rfl);(· (repeat' (first|exact gtsP_nil|exact Q0 rfl|apply gtsP_cons)));(· (repeat' (first|exact BuildR.nil _|(apply BuildR.cons;(iterate 4 exact rfl);(· (first|nofun|assumption));(· (repeat' constructor)))))))|(apply Jk;exact rfl;exact rfl;exact Q0 rfl;exact Q0 rfl)|apply Qk (f:=39)|apply c0|apply Jl (f:=59)|apply c1|apply Jl (f:=68)|apply c2|apply Qk (f:=57)|apply in_cv|exact Qa|apply Q3|(apply View.pure;exact Q4.out)|exact Jq.out|exact Qe.out|exact Q0 rfl|exact Ql|(apply Qg;exact Q0 rfl)|exact Q5 rfl rfl|assumption|exact rfl|fail)
 have r5:=rng_t a5
 have c8:=mined_cv (U1 tr n time ev) tries (hgf a4) a5
 have hmr:=mineH_range (U1 tr n time ev) a5.1
 rw [if_neg (λ k=>k a4),if_neg (λ k=>k a5)] at hc ⊢
 by_cases a6:0<=Y8 (U1 tr n time ev) tries
 case neg =>
  rw [decide_eq_false a6,if_neg a6] at c8
  have d6:(!false) = true:=rfl
  rw [if_pos a6]
  rw [hgw] at c8
  generalize withN _ 0 = y at *
  generalize zerosN (chainL (J2 tr) n) = zz at *
  generalize rootL ev = rr at *
  generalize hdD x = dd at *
  repeat' (first|refine Qh ?_|refine Q9 ?_|refine J8 ?_|refine U9 ?_|refine Q8 Qc ?_|(apply T_drawQ (id:=14) 23 [21,22] Qc Uw;(iterate 3 exact rfl);(· kernel_rfl);(· kernel_rfl);exact Nat.le_of_ble_eq_true rfl)|refine Qi ?_|refine Qw ?_|refine Qu ?_|refine Qo ?_|(apply E_X<;>repeat' (first|exact J4|(apply J3;exact rfl)|(apply Qx;(iterate 6 exact rfl))|(apply J5;(iterate 4 exact rfl);(· (first|assumption|exact rfl)))|exact Qa|apply Q3|apply Jb|(apply Uu;exact rfl;(· first|exact rfl|assumption|(simp [Q1];done)|(simp [Q1];omega)|omega);exact Q6.out)|(apply U8;exact Q6.out)|apply Uh|apply Ul|(apply View.ofEq;exact Q4.out)|exact rfl))|(apply Jf;exact rfl;(· (first|assumption|exact rfl)))|(apply J9;exact rfl;(· (first|assumption|exact rfl)))|(apply S_gf;exact rfl;exact rfl;(· (first|assumption|exact rfl)))|apply Qd|apply Q2|(apply Uj;exact Q0 rfl;(· (first|assumption|exact rfl)))|(apply Ue;exact rfl;exact Q0 rfl;exact rfl;(· (first|exact ⟨rfl,rfl⟩|exact ⟨rfl,trivial⟩|assumption)))|(apply Uo;exact rfl;exact Q0 rfl;exact rfl;exact rfl)|(apply S_fieldV;(iterate 4 exact rfl);exact Q0 rfl)|(apply S_eql;exact Q0 rfl;exact Q0 rfl)|(apply Y4;exact Q0 rfl;exact Q0 rfl)|apply Y7|apply S_sub|apply S_not|(apply Qp;exact rfl;exact Q0 rfl)|apply S_extract|apply U0|(apply Jg;exact rfl;exact Q0 rfl;(iterate 4 exact rfl))|(apply S_build;(iterate 3 exact rfl);(· (repeat' (first|exact gtsP_nil|exact Q0 rfl|apply gtsP_cons)));(· (repeat' (first|exact BuildR.nil _|(apply BuildR.cons;(iterate 4 exact rfl);(· (first|nofun|assumption));(· (repeat' constructor)))))))|(apply Jk;exact rfl;exact rfl;exact Q0 rfl;exact Q0 rfl)|(apply L_alloc Qc;exact rfl;exact rfl;(· (first|exact Q5 rfl rfl|assumption));exact rfl;exact rfl)|(apply L_store1 Qc;exact rfl;exact Q0 rfl;(iterate 4 exact rfl);exact Q0 rfl;(· first|exact Q5 rfl rfl|assumption);exact rfl)|apply Qk (f:=39)|apply c0|apply Jl (f:=59)|apply c1|apply Jl (f:=68)|apply c2|apply Jl (f:=71)|apply c3|apply Jl (f:=58)|apply c4|apply Jl (f:=70)|apply c5|apply Qk (f:=69)|apply c6|apply Jl (f:=72)|apply c7|apply Jl (f:=73)|apply c8|apply Qk (f:=57)|apply in_cv|exact Qa|apply Q3|(apply View.pure;exact Q4.out)|exact Jq.out|exact Qe.out|exact Q0 rfl|exact Ql|(apply Qg;exact Q0 rfl)|exact Q5 rfl rfl|assumption|exact rfl|fail)
 have c9:=hq (Y8 (U1 tr n time ev) tries) ⟨a6,by omega⟩ a4
 rw [if_neg (λ k=>k a6)] at hc ⊢
 by_cases a7:0<=Yh ((J2 tr).map hdD) (hdD (withN (U1 tr n time ev) (Y8 (U1 tr n time ev) tries)))
 case neg=>exact absurd (if_neg a7) hc
 rw [if_pos a7]
 rw [show joinF (J2 tr) (withN (U1 tr n time ev) (Y8 (U1 tr n time ev) tries)) = 7 from if_pos a7] at c9
 rw [decide_eq_true a6,if_pos a6] at c8
 generalize withN (U1 tr n time ev) (Y8 (U1 tr n time ev) tries) = y at *
 rw [hgw] at c8
 have d7:decide ((7:Int) = 7) = true:=rfl
 generalize zerosN (chainL (J2 tr) n) = zz at *
 generalize rootL ev = rr at *
 generalize hdD x = dd at *
 repeat' (first|refine Qh ?_|refine Q9 ?_|refine J8 ?_|refine U9 ?_|refine Q8 Qc ?_|(apply T_drawQ (id:=14) 23 [21,22] Qc Uw;(iterate 3 exact rfl);(· kernel_rfl);(· kernel_rfl);exact Nat.le_of_ble_eq_true rfl)|refine Qi ?_|refine Qw ?_|refine Qu ?_|refine Qo ?_|(apply E_X<;>repeat' (first|exact J4|(apply J3;exact rfl)|(apply Qx;(iterate 6 exact rfl))|(apply J5;(iterate 4 exact rfl);(· (first|assumption|exact rfl)))|exact Qa|apply Q3|apply Jb|(apply Uu;exact rfl;(· first|exact rfl|assumption|(simp [Q1];done)|(simp [Q1];omega)|omega);exact Q6.out)|(apply U8;exact Q6.out)|apply Uh|apply Ul|(apply View.ofEq;exact Q4.out)|exact rfl))|(apply Jf;exact rfl;(· (first|assumption|exact rfl)))|(apply J9;exact rfl;(· (first|assumption|exact rfl)))|(apply S_gf;exact rfl;exact rfl;(· (first|assumption|exact rfl)))|apply Qd|apply Q2|(apply Uj;exact Q0 rfl;(· (first|assumption|exact rfl)))|(apply Yc;exact rfl;exact Q0 rfl;(iterate 6 exact rfl))|(apply Ue;exact rfl;exact Q0 rfl;exact rfl;(· (first|exact ⟨rfl,rfl⟩|exact ⟨rfl,trivial⟩|assumption)))|(apply Uo;exact rfl;exact Q0 rfl;exact rfl;exact rfl)|(apply S_fieldV;(iterate 4 exact rfl);exact Q0 rfl)|(apply S_eql;exact Q0 rfl;exact Q0 rfl)|(apply Y4;exact Q0 rfl;exact Q0 rfl)|apply Y7|apply S_sub|apply S_not|(apply Qp;exact rfl;exact Q0 rfl)|apply S_extract|apply U0|(apply Jg;exact rfl;exact Q0 rfl;(iterate 4 exact rfl))|(apply S_build;(iterate 3 exact rfl);(· (repeat' (first|exact gtsP_nil|exact Q0 rfl|apply gtsP_cons)));(· (repeat' (first|exact BuildR.nil _|(apply BuildR.cons;(iterate 4 exact rfl);(· (first|nofun|assumption));(· (repeat' constructor)))))))|(apply Jk;exact rfl;exact rfl;exact Q0 rfl;exact Q0 rfl)|(apply L_alloc Qc;exact rfl;exact rfl;(· (first|exact Q5 rfl rfl|assumption));exact rfl;exact rfl)|(apply L_store1 Qc;exact rfl;exact Q0 rfl;(iterate 4 exact rfl);exact Q0 rfl;(· first|exact Q5 rfl rfl|assumption);exact rfl)|apply Qk (f:=39)|apply c0|apply Jl (f:=59)|apply c1|apply Jl (f:=68)|apply c2|apply Jl (f:=71)|apply c3|apply Jl (f:=58)|apply c4|apply Jl (f:=70)|apply c5|apply Qk (f:=69)|apply c6|apply Jl (f:=72)|apply c7|apply Jl (f:=73)|apply c8|apply Qk|apply c9|apply in_cv|exact Qa|apply Q3|(apply View.pure;exact Q4.out)|exact Jq.out|exact Qe.out|exact Q0 rfl|exact Ql|(apply Qg;exact Q0 rfl)|exact Q5 rfl rfl|assumption|exact rfl|fail)
end Go.Proofs.YtaolmfgpebncjaaGreat
