/- What the model finds wrong with a tree of blocks. -/
import Derived.Test.YtaolmfgpebncjaaGreatZzi
set_option maxRecDepth 100000
set_option maxHeartbeats 3200000
set_option linter.unusedSimpArgs false
set_option linter.unusedVariables false
namespace Go.Proofs.YtaolmfgpebncjaaGreat
open Go.Av
attribute [local irreducible] T thenQ Uv Y0 Uz WX retV retR Gt Gts GtsP Qs CV CR Av.Pure
attribute [local irreducible] sha zerosL lz8 hdD Jw zerosN hardF firstB wayD chainL bestUp wtL joinF fewB rootL parI
theorem specTreeFault_cv (tr:List Blk) (hl:tr.length<=1048576) (he:∀ b∈tr,b.events.length<=1048576):CV Tryz.prog 52 [blkAS tr] (· = .int .i64 (Y1 tr)):=by
 refine J7 Qc Tryz.func52 (by kernel_rfl) rfl 78 rfl (by simp) [.tmp 2] rfl ?_
 intro w0 ok0
 have hml:(tr.map blkA).length = tr.length:=by simp
 by_cases a2:tr.length = 0
 ·have d2:decide (((tr.map blkA).length:Int) = 0) = true:=decide_eq_true (by omega)
  rw [show Y1 tr = 4 from if_pos a2]
  repeat' (first|refine Qh ?_|refine Q9 ?_|refine J8 ?_|refine Q8 Qc ?_|refine Qi ?_|refine Qu ?_|(apply Jr;exact rfl;(· (repeat' (first|exact Qb _ _|exact Qj _|exact Qn _);done)))|(apply Jf;exact rfl;(· (first|assumption|exact rfl)))|apply Qd|apply Q2|(apply S_eql;exact Q0 rfl;exact Q0 rfl)|(apply Qp;exact rfl;exact Q0 rfl)|exact Q0 rfl|exact rfl|fail)
 have d2:decide (((tr.map blkA).length:Int) = 0) = false:=decide_eq_false (by omega)
 by_cases a3:24 < tr.length
 ·have d3:decide ((24:Int) < ((tr.map blkA).length:Int)) = true:=decide_eq_true (by omega)
  rw [show Y1 tr = 2 by unfold Y1;rw [if_neg a2,if_pos a3]]
  repeat' (first|refine Qh ?_|refine Q9 ?_|refine J8 ?_|refine Q8 Qc ?_|refine Qi ?_|refine Qw ?_|refine Qu ?_|(apply Jr;exact rfl;(· (repeat' (first|exact Qb _ _|exact Qj _|exact Qn _);done)))|(apply Jf;exact rfl;(· (first|assumption|exact rfl)))|(apply J9;exact rfl;(· (first|assumption|exact rfl)))|apply Qd|apply Q2|apply S_gtr|(apply S_eql;exact Q0 rfl;exact Q0 rfl)|(apply Qp;exact rfl;exact Q0 rfl)|exact Q0 rfl|exact rfl|fail)
 have d3:decide ((24:Int) < ((tr.map blkA).length:Int)) = false:=decide_eq_false (by omega)
 have hF:Y1 tr = treeGo tr (tr.length - 0) 0:=by unfold Y1;rw [if_neg a2,if_neg a3];rfl
 rw [hF]
 generalize hR:treeGo tr (tr.length - 0) 0 = R at *
 have cH:=l5Heads_cv tr hl
 have hhl:=headsL_length tr
 repeat' (first|refine Qh ?_|refine Q9 ?_|refine Q8 Qc ?_|refine Qi ?_|refine Qw ?_|refine Qo ?_|(apply J9;exact rfl;(· (first|assumption|exact rfl)))|apply Qd|apply Q2|apply S_gtr|(apply S_eql;exact Q0 rfl;exact Q0 rfl)|(apply Qp;exact rfl;exact Q0 rfl)|apply S_extract|apply Jl (f:=54)|apply cH|exact Qe.out|exact Q0 rfl|exact Ql|(apply Qg;exact Q0 rfl)|exact rfl|fail)
 refine Js (α:=Nat) (λ k=>⟨[(0,blkAS tr),(3,hdAS (J2 tr)),(4,Y2 ((J2 tr).map digOr)),(5,.int .i64 k)],[],0⟩)
  (λ k=>tr.length - k) (λ k=>k<=tr.length/\Joined ((J2 tr).take k)/\R = treeGo tr (tr.length - k) k) 0 ((Jp (by repeat' (first|exact Qy|refine Qr rfl ?_)) (by repeat' (first|exact Qz|refine Qt (by first|rfl|exact congrArg (λ l=>some (Box.mk l _ _ _)) hset) ?_)) (Nat.le_refl _))).sub ⟨by omega,joined_nil,hR.symm⟩ ?_
 rintro k ⟨hk,hJ,hI⟩
 by_cases hkl:k < tr.length
 case neg =>
  have d4:decide ((k:Int) < ((tr.map blkA).length:Int)) = false:=decide_eq_false (by omega)
  obtain rfl:k = tr.length:=by omega
  rw [Nat.sub_self,treeGo] at hI
  rw [hI]
  repeat' (first|refine Qh ?_|refine Q9 ?_|refine Ua ?_|refine Jt ?_|refine Jo ?_|refine Q8 Qc ?_|refine Qi ?_|refine Qu ?_|refine Un ?_|(apply Jr;exact rfl;(· (repeat' (first|exact Qb _ _|exact Qj _|exact Qn _);done)))|(apply J9;exact rfl;(· (first|assumption|exact rfl)))|apply Qd|apply Q2|apply Jd|(apply Qp;exact rfl;exact Q0 rfl)|exact Q0 rfl|exact rfl|fail)
 have d4:decide ((k:Int) < ((tr.map blkA).length:Int)) = true:=decide_eq_true (by omega)
 have hget:=Uy blkA tr Blk0 (k:=k) (by omega)
 have hw:IntKind.wrap .i64 ((k:Int) + 1) = ((k + 1:Nat):Int):=by rw [wrap_i64 (by omega) (by omega)];omega
 have t1:=map_takeF hdA (J2 tr) k
 have hjs:=joined_step (hs:=J2 tr) (k:=k) (by omega) hJ
 rw [headsL_getD tr k hkl] at hjs
 rw [show tr.length - k = (tr.length - (k + 1)) + 1 by omega,treeGo] at hI
 have hS:treeStep tr k = stepT ((J2 tr).take k) (tr.getD k Blk0) k:=rfl
 rw [hS] at hI
 clear hS
 have hev:=he _ (getD_mem tr Blk0 hkl)
 generalize tr.getD k Blk0 = b at *
 have c1:=l5Few_cv b.events hev
 cases g1:fewB b.events with
 | false =>
   rw [g1] at c1
   have e1:(!false) = true:=rfl
   rw [stepT_many g1,if_neg (by decide)] at hI
   rw [hI]
   repeat' (first|refine Qh ?_|refine Q9 ?_|refine J8 ?_|refine Ui ?_|refine Ya ?_|refine Q8 Qc ?_|refine Qi ?_|refine Qw ?_|refine Qu ?_|refine Qo ?_|(apply Jr;exact rfl;(· (repeat' (first|exact Qb _ _|exact Qj _|exact Qn _);done)))|(apply Jf;exact rfl;(· (first|assumption|exact rfl)))|apply Qd|apply Q2|(apply Jj;exact rfl;exact Q0 rfl;(iterate 3 exact rfl);(· (first|exact ⟨rfl,rfl⟩|exact ⟨rfl,trivial⟩|assumption)))|(apply Uo;exact rfl;exact Q0 rfl;exact rfl;exact rfl)|(apply J6;(iterate 4 exact rfl);exact Q0 rfl)|apply Jd|apply S_not|(apply Qp;exact rfl;exact Q0 rfl)|apply U0|(apply Jg;exact rfl;exact Q0 rfl;(iterate 4 exact rfl))|(apply Jk;exact rfl;exact rfl;exact Q0 rfl;exact Q0 rfl)|apply Qk (f:=66)|apply c1|exact Qa|apply Q3|(apply View.pure;exact Q4.out)|exact Jq.out|exact Q0 rfl|exact Ql|(apply Qg;exact Q0 rfl)|exact Q5 rfl rfl|assumption|(refine ⟨?_,?_⟩<;>omega)|exact rfl|fail)
 | true =>
 rw [g1] at c1
 have e1:(!true) = false:=rfl
 have c2:=specHdFault_cv b.head
 by_cases g2:¬ Jw b.head = 0
 ·have e2:(!decide (Jw b.head = 0)) = true:=by rw [decide_eq_false g2];rfl
  rw [stepT_head g1 g2,if_neg g2] at hI
  rw [hI]
  repeat' (first|refine Qh ?_|refine Q9 ?_|refine J8 ?_|refine Ui ?_|refine Ya ?_|refine Q8 Qc ?_|refine Qi ?_|refine Qw ?_|refine Qu ?_|refine Qo ?_|(apply Jr;exact rfl;(· (repeat' (first|exact Qb _ _|exact Qj _|exact Qn _);done)))|(apply Jf;exact rfl;(· (first|assumption|exact rfl)))|(apply J9;exact rfl;(· (first|assumption|exact rfl)))|apply Qd|apply Q2|(apply Jj;exact rfl;exact Q0 rfl;(iterate 3 exact rfl);(· (first|exact ⟨rfl,rfl⟩|exact ⟨rfl,trivial⟩|assumption)))|(apply M_loadA;exact rfl;exact rfl;exact Q0 rfl;exact rfl;exact rfl;(· (repeat' constructor)))|(apply Uo;exact rfl;exact Q0 rfl;exact rfl;exact rfl)|(apply J6;(iterate 4 exact rfl);exact Q0 rfl)|apply Jd|(apply Y4;exact Q0 rfl;exact Q0 rfl)|apply S_not|(apply Qp;exact rfl;exact Q0 rfl)|apply U0|(apply Jg;exact rfl;exact Q0 rfl;(iterate 4 exact rfl))|(apply Jk;exact rfl;exact rfl;exact Q0 rfl;exact Q0 rfl)|apply Qk (f:=66)|apply c1|apply Qk (f:=113)|apply c2|exact Qa|apply Q3|(apply View.pure;exact Q4.out)|exact Jq.out|exact Q0 rfl|exact Ql|(apply Qg;exact Q0 rfl)|exact Q5 rfl rfl|assumption|(refine ⟨?_,?_⟩<;>omega)|exact rfl|fail)
 replace g2:=Classical.not_not.1 g2
 rw [g2] at c2
 have e2:(!decide ((0:Int) = 0)) = false:=rfl
 have hfw:=few_len g1
 have c3:=l3Root_cv b.events.length b.events rfl (by omega) (λ w hw=>by have:=hfw.2 w hw;omega)
 have hrl:=rootL_length b.events
 have hbr:=(hd_zero g2).1
 have c4:=same_cv b.head.root (rootL b.events) (by omega) (by omega)
 have c5:=l5Hard_cv b.head g2
 cases g3:okBlk b with
 | false =>
   rw [stepT_proof g1 g2 g3,if_neg (by decide)] at hI
   rw [hI]
   unfold okBlk at g3
   by_cases q1:b.head.root = rootL b.events
   ·rw [decide_eq_true q1] at c4 g3
    rw [Bool.true_and] at g3
    rw [g3] at c5
    have e3:(!false) = true:=rfl
    repeat' (first|refine Qh ?_|refine Q9 ?_|refine J8 ?_|refine Ui ?_|refine Ya ?_|refine Q8 Qc ?_|(apply T_drawM (id:=15) 6 Qc Uw;exact rfl;exact rfl;(· kernel_rfl);exact Nat.le_of_ble_eq_true rfl)|refine Qi ?_|refine Qw ?_|refine Qu ?_|refine Qo ?_|(apply Jr;exact rfl;(· (repeat' (first|exact Qb _ _|exact Qj _|exact Qn _);done)))|(apply Jf;exact rfl;(· (first|assumption|exact rfl)))|(apply J9;exact rfl;(· (first|assumption|exact rfl)))|(apply S_gf;exact rfl;exact rfl;(· (first|assumption|exact rfl)))|apply Qd|apply Q2|(apply Uj;exact Q0 rfl;(· (first|assumption|exact rfl)))|(apply Jj;exact rfl;exact Q0 rfl;(iterate 3 exact rfl);(· (first|exact ⟨rfl,rfl⟩|exact ⟨rfl,trivial⟩|assumption)))|(apply M_loadA;exact rfl;exact rfl;exact Q0 rfl;exact rfl;exact rfl;(· (repeat' constructor)))|(apply Uo;exact rfl;exact Q0 rfl;exact rfl;exact rfl)|(apply J6;(iterate 4 exact rfl);exact Q0 rfl)|apply Jd|(apply Y4;exact Q0 rfl;exact Q0 rfl)|apply S_not|(apply Qp;exact rfl;exact Q0 rfl)|apply U0|(apply Jg;exact rfl;exact Q0 rfl;(iterate 4 exact rfl))|(apply Jk;exact rfl;exact rfl;exact Q0 rfl;exact Q0 rfl)|apply Qk (f:=66)|apply c1|apply Qk (f:=113)|apply c2|apply Jl|apply c3|apply c4|apply c5|exact Qa|apply Q3|(apply View.pure;exact Q4.out)|exact Jq.out|exact Qe.out|exact Q0 rfl|exact Ql|(apply Qg;exact Q0 rfl)|exact Q5 rfl rfl|assumption|(refine ⟨?_,?_⟩<;>omega)|exact rfl|fail)
   ·rw [decide_eq_false q1] at c4
    have e3:(!false) = true:=rfl
    repeat' (first|refine Qh ?_|refine Q9 ?_|refine J8 ?_|refine Ui ?_|refine Ya ?_|refine Q8 Qc ?_|(apply T_drawM (id:=15) 6 Qc Uw;exact rfl;exact rfl;(· kernel_rfl);exact Nat.le_of_ble_eq_true rfl)|refine Qi ?_|refine Qw ?_|refine Qu ?_|refine Qo ?_|(apply Jr;exact rfl;(· (repeat' (first|exact Qb _ _|exact Qj _|exact Qn _);done)))|(apply Jf;exact rfl;(· (first|assumption|exact rfl)))|(apply J9;exact rfl;(· (first|assumption|exact rfl)))|(apply S_gfT';(iterate 3 exact rfl);(· (first|assumption|exact rfl)))|apply Qd|apply Q2|(apply S_pickT;exact Q0 rfl;(· (first|assumption|exact rfl)))|(apply Jj;exact rfl;exact Q0 rfl;(iterate 3 exact rfl);(· (first|exact ⟨rfl,rfl⟩|exact ⟨rfl,trivial⟩|assumption)))|(apply M_loadA;exact rfl;exact rfl;exact Q0 rfl;exact rfl;exact rfl;(· (repeat' constructor)))|(apply Uo;exact rfl;exact Q0 rfl;exact rfl;exact rfl)|(apply J6;(iterate 4 exact rfl);exact Q0 rfl)|apply Jd|(apply Y4;exact Q0 rfl;exact Q0 rfl)|apply S_not|(apply Qp;exact rfl;exact Q0 rfl)|apply U0|(apply Jg;exact rfl;exact Q0 rfl;(iterate 4 exact rfl))|(apply Jk;exact rfl;exact rfl;exact Q0 rfl;exact Q0 rfl)|apply Qk (f:=66)|apply c1|apply Qk (f:=113)|apply c2|apply Jl|apply c3|apply c4|exact Qa|apply Q3|(apply View.pure;exact Q4.out)|exact Jq.out|exact Qe.out|exact Q0 rfl|exact Ql|(apply Qg;exact Q0 rfl)|exact Q5 rfl rfl|assumption|(refine ⟨?_,?_⟩<;>omega)|exact rfl|fail)
 | true =>
 have g3':=g3
 unfold okBlk at g3'
 simp only [Bool.and_eq_true] at g3'
 rw [g3'.1] at c4
 rw [g3'.2] at c5
 by_cases h0:k = 0
 ·have d5:decide ((k:Int) = 0) = true:=decide_eq_true (by omega)
  have c6:=l5First_cv b.head (by omega)
  have hel:(b.events.map byA).length = b.events.length:=by simp
  by_cases q:firstB b.head = true/\b.events.length = 0
  ·rw [q.1] at c6
   have d6:decide ((0:Int) < ((b.events.map byA).length:Int)) = false:=decide_eq_false (by omega)
   rw [stepT_first g1 g2 g3 h0 q,if_pos rfl] at hI
   repeat' (first|refine Qh ?_|refine Q9 ?_|refine Ua ?_|refine Jt ?_|refine Q8 Qc ?_|(apply T_drawM (id:=15) 6 Qc Uw;exact rfl;exact rfl;(· kernel_rfl);exact Nat.le_of_ble_eq_true rfl)|refine Qi ?_|refine Qw ?_|refine Un ?_|refine Qo ?_|(apply Jf;exact rfl;(· (first|assumption|exact rfl)))|(apply J9;exact rfl;(· (first|assumption|exact rfl)))|(apply S_gf;exact rfl;exact rfl;(· (first|assumption|exact rfl)))|apply Qd|apply Q2|(apply Uj;exact Q0 rfl;(· (first|assumption|exact rfl)))|(apply Jj;exact rfl;exact Q0 rfl;(iterate 3 exact rfl);(· (first|exact ⟨rfl,rfl⟩|exact ⟨rfl,trivial⟩|assumption)))|(apply M_loadA;exact rfl;exact rfl;exact Q0 rfl;exact rfl;exact rfl;(· (repeat' constructor)))|(apply Uo;exact rfl;exact Q0 rfl;exact rfl;exact rfl)|(apply J6;(iterate 4 exact rfl);exact Q0 rfl)|apply Jd|apply S_gtr|(apply S_eql;exact Q0 rfl;exact Q0 rfl)|(apply Y4;exact Q0 rfl;exact Q0 rfl)|apply Y7|apply S_not|(apply Qp;exact rfl;exact Q0 rfl)|apply U0|(apply Jg;exact rfl;exact Q0 rfl;(iterate 4 exact rfl))|(apply Jk;exact rfl;exact rfl;exact Q0 rfl;exact Q0 rfl)|apply Qk (f:=66)|apply c1|apply Qk (f:=113)|apply c2|apply Jl|apply c3|apply c4|apply c5|apply c6|exact Qa|apply Q3|(apply View.pure;exact Q4.out)|exact Jq.out|exact Qe.out|exact Q0 rfl|exact Ql|(apply Qg;exact Q0 rfl)|exact Q5 rfl rfl|assumption|(refine ⟨?_,?_⟩<;>omega)|exact rfl|fail)
   exact U7 (k + 1) (sub_drop (by repeat' (first|exact Qy|refine Qr rfl ?_)) (by repeat' (first|exact Qz|refine Qt rfl ?_)) (by repeat' (first|exact lowE_nil|apply Ye|exact Low.sl _ _ _ _ (by decide)|exact Low.ptr _ _ _ (by decide)|(apply Low.pure;(first|exact Q4.out|exact Qe.out|assumption))|exact J0|apply Qq|apply U3|apply U2)) (by repeat' (first|exact lowB_nil|refine lowB_cons (by decide) (by (apply Uf.low;exact Q6.out)) ?_)) (Nat.zero_le _)) ⟨by omega,hjs g2 (.inl h0),hI⟩ (by omega)
  ·rw [stepT_one g1 g2 g3 h0 q,if_neg (by decide)] at hI
   rw [hI]
   cases f:firstB b.head with
   | false =>
     rw [f] at c6
     have e3:(!false) = true:=rfl
     repeat' (first|refine Qh ?_|refine Q9 ?_|refine J8 ?_|refine Ui ?_|refine Ya ?_|refine Q8 Qc ?_|(apply T_drawM (id:=15) 6 Qc Uw;exact rfl;exact rfl;(· kernel_rfl);exact Nat.le_of_ble_eq_true rfl)|refine Qi ?_|refine Qw ?_|refine Qu ?_|refine Qo ?_|(apply Jr;exact rfl;(· (repeat' (first|exact Qb _ _|exact Qj _|exact Qn _);done)))|(apply Jf;exact rfl;(· (first|assumption|exact rfl)))|(apply J9;exact rfl;(· (first|assumption|exact rfl)))|(apply S_gf;exact rfl;exact rfl;(· (first|assumption|exact rfl)))|(apply S_gfT';(iterate 3 exact rfl);(· (first|assumption|exact rfl)))|apply Qd|apply Q2|(apply S_pickT;exact Q0 rfl;(· (first|assumption|exact rfl)))|(apply Uj;exact Q0 rfl;(· (first|assumption|exact rfl)))|(apply Jj;exact rfl;exact Q0 rfl;(iterate 3 exact rfl);(· (first|exact ⟨rfl,rfl⟩|exact ⟨rfl,trivial⟩|assumption)))|(apply M_loadA;exact rfl;exact rfl;exact Q0 rfl;exact rfl;exact rfl;(· (repeat' constructor)))|(apply Uo;exact rfl;exact Q0 rfl;exact rfl;exact rfl)|(apply J6;(iterate 4 exact rfl);exact Q0 rfl)|apply Jd|(apply S_eql;exact Q0 rfl;exact Q0 rfl)|(apply Y4;exact Q0 rfl;exact Q0 rfl)|apply S_not|(apply Qp;exact rfl;exact Q0 rfl)|apply U0|(apply Jg;exact rfl;exact Q0 rfl;(iterate 4 exact rfl))|(apply Jk;exact rfl;exact rfl;exact Q0 rfl;exact Q0 rfl)|apply Qk (f:=66)|apply c1|apply Qk (f:=113)|apply c2|apply Jl|apply c3|apply c4|apply c5|apply c6|exact Qa|apply Q3|(apply View.pure;exact Q4.out)|exact Jq.out|exact Qe.out|exact Q0 rfl|exact Ql|(apply Qg;exact Q0 rfl)|exact Q5 rfl rfl|assumption|(refine ⟨?_,?_⟩<;>omega)|exact rfl|fail)
   | true =>
     rw [f] at c6
     have hne:¬ b.events.length = 0:=λ z=>q ⟨f,z⟩
     have d6:decide ((0:Int) < ((b.events.map byA).length:Int)) = true:=decide_eq_true (by omega)
     repeat' (first|refine Qh ?_|refine Q9 ?_|refine J8 ?_|refine Ui ?_|refine Ya ?_|refine Q8 Qc ?_|(apply T_drawM (id:=15) 6 Qc Uw;exact rfl;exact rfl;(· kernel_rfl);exact Nat.le_of_ble_eq_true rfl)|refine Qi ?_|refine Qw ?_|refine Qu ?_|refine Qo ?_|(apply Jr;exact rfl;(· (repeat' (first|exact Qb _ _|exact Qj _|exact Qn _);done)))|(apply Jf;exact rfl;(· (first|assumption|exact rfl)))|(apply J9;exact rfl;(· (first|assumption|exact rfl)))|(apply S_gf;exact rfl;exact rfl;(· (first|assumption|exact rfl)))|apply Qd|apply Q2|(apply Uj;exact Q0 rfl;(· (first|assumption|exact rfl)))|(apply Jj;exact rfl;exact Q0 rfl;(iterate 3 exact rfl);(· (first|exact ⟨rfl,rfl⟩|exact ⟨rfl,trivial⟩|assumption)))|(apply M_loadA;exact rfl;exact rfl;exact Q0 rfl;exact rfl;exact rfl;(· (repeat' constructor)))|(apply Uo;exact rfl;exact Q0 rfl;exact rfl;exact rfl)|(apply J6;(iterate 4 exact rfl);exact Q0 rfl)|apply Jd|apply S_gtr|(apply S_eql;exact Q0 rfl;exact Q0 rfl)|(apply Y4;exact Q0 rfl;exact Q0 rfl)|apply S_not|(apply Qp;exact rfl;exact Q0 rfl)|apply U0|(apply Jg;exact rfl;exact Q0 rfl;(iterate 4 exact rfl))|(apply Jk;exact rfl;exact rfl;exact Q0 rfl;exact Q0 rfl)|apply Qk (f:=66)|apply c1|apply Qk (f:=113)|apply c2|apply Jl|apply c3|apply c4|apply c5|apply c6|exact Qa|apply Q3|(apply View.pure;exact Q4.out)|exact Jq.out|exact Qe.out|exact Q0 rfl|exact Ql|(apply Qg;exact Q0 rfl)|exact Q5 rfl rfl|assumption|(refine ⟨?_,?_⟩<;>omega)|exact rfl|fail)
 ·have d5:decide ((k:Int) = 0) = false:=decide_eq_false (by omega)
  rw [stepT_join g1 g2 g3 h0] at hI
  have t2:=map_takeF byA ((J2 tr).map digOr) k
  have t3:((J2 tr).map digOr).take k = ((J2 tr).take k).map hdD:=by rw [<-List.map_take];exact digOrs hJ.1
  rw [t3] at t2
  have c7:=l5Next_cv ((J2 tr).take k) b.head hJ g2 (by rw [List.length_take];omega)
  by_cases q:joinF ((J2 tr).take k) b.head = 0
  ·rw [if_pos q] at hI
   rw [q] at c7
   repeat' (first|refine Qh ?_|refine Q9 ?_|refine U9 ?_|refine Q8 Qc ?_|(apply T_drawM (id:=15) 6 Qc Uw;exact rfl;exact rfl;(· kernel_rfl);exact Nat.le_of_ble_eq_true rfl)|(apply T_drawM (id:=20) 8 Qc Uw;exact rfl;exact rfl;(· kernel_rfl);exact Nat.le_of_ble_eq_true rfl)|refine Qi ?_|refine Qw ?_|refine Qo ?_|(apply Jf;exact rfl;(· (first|assumption|exact rfl)))|(apply J9;exact rfl;(· (first|assumption|exact rfl)))|(apply S_gf;exact rfl;exact rfl;(· (first|assumption|exact rfl)))|apply Qd|apply Q2|(apply Uj;exact Q0 rfl;(· (first|assumption|exact rfl)))|(apply Jj;exact rfl;exact Q0 rfl;(iterate 3 exact rfl);(· (first|exact ⟨rfl,rfl⟩|exact ⟨rfl,trivial⟩|assumption)))|(apply M_loadA;exact rfl;exact rfl;exact Q0 rfl;exact rfl;exact rfl;(· (repeat' constructor)))|(apply Uo;exact rfl;exact Q0 rfl;exact rfl;exact rfl)|(apply J6;(iterate 4 exact rfl);exact Q0 rfl)|apply Jd|(apply S_eql;exact Q0 rfl;exact Q0 rfl)|(apply Y4;exact Q0 rfl;exact Q0 rfl)|apply Y7|apply S_not|(apply Qp;exact rfl;exact Q0 rfl)|apply U0|(apply Jg;exact rfl;exact Q0 rfl;(iterate 4 exact rfl))|(apply Jk;exact rfl;exact rfl;exact Q0 rfl;exact Q0 rfl)|(apply M_slLs;exact rfl;exact rfl;exact Q0 rfl;exact rfl)|apply Qk (f:=66)|apply c1|apply Qk (f:=113)|apply c2|apply Jl|apply c3|apply c4|apply c5|apply c7|exact Qa|apply Q3|(apply View.pure;exact Q4.out)|(apply mtake;first|assumption|exact Ux (by first|rfl|(simp;done))|exact rfl)|exact Jq.out|exact Qe.out|(apply mlen;first|exact rfl|assumption|exact Nat.le_of_ble_eq_true rfl|omega|(simp [Q1];done)|(simp [Q1];omega))|(apply mtake;first|assumption|exact Ux (by first|rfl|(simp;done))|exact rfl)|(apply mnat;first|exact Int.toNat_natCast _|exact rfl)|exact Bd.no _|(apply bd_at;exact Q0 rfl)|exact Q0 rfl|exact Ql|(apply Qg;exact Q0 rfl)|exact Q5 rfl rfl|assumption|(refine ⟨?_,?_⟩<;>omega)|omega|exact rfl|fail)
   exact U7 (k + 1) (sub_drop (by repeat' (first|exact Qy|refine Qr rfl ?_)) (by repeat' (first|exact Qz|refine Qt rfl ?_)) (by repeat' (first|exact lowE_nil|apply Ye|exact Low.sl _ _ _ _ (by decide)|exact Low.ptr _ _ _ (by decide)|(apply Low.pure;(first|exact Q4.out|exact Qe.out|assumption))|exact J0|apply Qq|apply U3|apply U2)) (by repeat' (first|exact lowB_nil|refine lowB_cons (by decide) (by (apply Uf.low;exact Q6.out)) ?_)) (Nat.zero_le _)) ⟨by omega,hjs g2 (.inr q),hI⟩ (by omega)
  ·have e3:(!decide (joinF ((J2 tr).take k) b.head = 0)) = true:=by rw [decide_eq_false q];rfl
   rw [if_neg q] at hI
   rw [hI]
   repeat' (first|refine Qh ?_|refine Q9 ?_|refine J8 ?_|refine Ui ?_|refine Ya ?_|refine Q8 Qc ?_|(apply T_drawM (id:=15) 6 Qc Uw;exact rfl;exact rfl;(· kernel_rfl);exact Nat.le_of_ble_eq_true rfl)|(apply T_drawM (id:=20) 8 Qc Uw;exact rfl;exact rfl;(· kernel_rfl);exact Nat.le_of_ble_eq_true rfl)|refine Qi ?_|refine Qw ?_|refine Qu ?_|refine Qo ?_|(apply Jr;exact rfl;(· (repeat' (first|exact Qb _ _|exact Qj _|exact Qn _);done)))|(apply Jf;exact rfl;(· (first|assumption|exact rfl)))|(apply J9;exact rfl;(· (first|assumption|exact rfl)))|(apply S_gf;exact rfl;exact rfl;(· (first|assumption|exact rfl)))|apply Qd|apply Q2|(apply Uj;exact Q0 rfl;(· (first|assumption|exact rfl)))|(apply Jj;exact rfl;exact Q0 rfl;(iterate 3 exact rfl);(· (first|exact ⟨rfl,rfl⟩|exact ⟨rfl,trivial⟩|assumption)))|(apply M_loadA;exact rfl;exact rfl;exact Q0 rfl;exact rfl;exact rfl;(· (repeat' constructor)))|(apply Uo;exact rfl;exact Q0 rfl;exact rfl;exact rfl)|(apply J6;(iterate 4 exact rfl);exact Q0 rfl)|apply Jd|(apply S_eql;exact Q0 rfl;exact Q0 rfl)|(apply Y4;exact Q0 rfl;exact Q0 rfl)|apply S_not|(apply Qp;exact rfl;exact Q0 rfl)|apply U0|(apply Jg;exact rfl;exact Q0 rfl;(iterate 4 exact rfl))|(apply Jk;exact rfl;exact rfl;exact Q0 rfl;exact Q0 rfl)|(apply M_slLs;exact rfl;exact rfl;exact Q0 rfl;exact rfl)|apply Qk (f:=66)|apply c1|apply Qk (f:=113)|apply c2|apply Jl|apply c3|apply c4|apply c5|apply c7|exact Qa|apply Q3|(apply View.pure;exact Q4.out)|(apply mtake;first|assumption|exact Ux (by first|rfl|(simp;done))|exact rfl)|exact Jq.out|exact Qe.out|(apply mlen;first|exact rfl|assumption|exact Nat.le_of_ble_eq_true rfl|omega|(simp [Q1];done)|(simp [Q1];omega))|(apply mtake;first|assumption|exact Ux (by first|rfl|(simp;done))|exact rfl)|(apply mnat;first|exact Int.toNat_natCast _|exact rfl)|exact Bd.no _|(apply bd_at;exact Q0 rfl)|exact Q0 rfl|exact Ql|(apply Qg;exact Q0 rfl)|exact Q5 rfl rfl|assumption|(refine ⟨?_,?_⟩<;>omega)|omega|exact rfl|fail)
end Go.Proofs.YtaolmfgpebncjaaGreat
