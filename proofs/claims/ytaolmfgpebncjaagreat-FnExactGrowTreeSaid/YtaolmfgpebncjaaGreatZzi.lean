/- What is wrong with a tree of blocks, if anything is. -/
import Derived.Test.YtaolmfgpebncjaaGreatZzh
set_option maxRecDepth 100000
set_option maxHeartbeats 3200000
set_option linter.unusedSimpArgs false
set_option linter.unusedVariables false
namespace Go.Proofs.YtaolmfgpebncjaaGreat
open Go.Av
attribute [local irreducible] T thenQ Uv Y0 Uz WX retV retR Gt Gts GtsP Qs CV CR Av.Pure
attribute [local irreducible] sha zerosL lz8 hdD Jw zerosN hardF firstB wayD chainL bestUp wtL joinF fewB rootL parI
def okBlk (b:Blk):Bool:=decide (b.head.root = rootL b.events) && decide (b.head.zeros<=(zerosL (hdD b.head):Int))
def stepT (pre:List Hd) (b:Blk) (i:Nat):Int :=
 if fewB b.events = false then 2 else if Jw b.head≠0 then Jw b.head else if okBlk b = false then 6
 else if i = 0 then (if firstB b.head = true/\b.events.length = 0 then 0 else 1) else joinF pre b.head
theorem stepT_many {pre:List Hd} {b:Blk} {i:Nat} (h:fewB b.events = false):stepT pre b i = 2:=if_pos h
theorem stepT_head {pre:List Hd} {b:Blk} {i:Nat} (h:fewB b.events = true) (h1:Jw b.head≠0):stepT pre b i = Jw b.head:=by
 unfold stepT;rw [if_neg (by rw [h];decide),if_pos h1]
theorem stepT_proof {pre:List Hd} {b:Blk} {i:Nat} (h:fewB b.events = true) (h1:Jw b.head = 0) (h2:okBlk b = false):stepT pre b i = 6:=by
 unfold stepT;rw [if_neg (by rw [h];decide),if_neg (λ q=>q h1),if_pos h2]
theorem stepT_one {pre:List Hd} {b:Blk} {i:Nat} (h:fewB b.events = true) (h1:Jw b.head = 0) (h2:okBlk b = true) (h0:i = 0) (k:¬ (firstB b.head = true/\b.events.length = 0)):stepT pre b i = 1:=by
 unfold stepT;rw [if_neg (by rw [h];decide),if_neg (λ q=>q h1),if_neg (by rw [h2];decide),if_pos h0,if_neg k]
theorem stepT_first {pre:List Hd} {b:Blk} {i:Nat} (h:fewB b.events = true) (h1:Jw b.head = 0) (h2:okBlk b = true) (h0:i = 0) (k:firstB b.head = true/\b.events.length = 0):stepT pre b i = 0:=by
 unfold stepT;rw [if_neg (by rw [h];decide),if_neg (λ q=>q h1),if_neg (by rw [h2];decide),if_pos h0,if_pos k]
theorem stepT_join {pre:List Hd} {b:Blk} {i:Nat} (h:fewB b.events = true) (h1:Jw b.head = 0) (h2:okBlk b = true) (h0:¬ i = 0):stepT pre b i = joinF pre b.head:=by
 unfold stepT;rw [if_neg (by rw [h];decide),if_neg (λ q=>q h1),if_neg (by rw [h2];decide),if_neg h0]
theorem stepT_zero {pre:List Hd} {b:Blk} {i:Nat} (h:stepT pre b i = 0):fewB b.events = true/\Jw b.head = 0/\okBlk b = true/\(i = 0/\firstB b.head = true/\b.events.length = 0∨i≠0/\joinF pre b.head = 0):=by
 cases f:fewB b.events with
 | false=>rw [stepT_many f] at h;cases h
 | true =>
   by_cases h1:Jw b.head = 0
   ·cases o:okBlk b with
    | false=>rw [stepT_proof f h1 o] at h;cases h
    | true =>
      refine ⟨rfl,h1,rfl,?_⟩
      by_cases h0:i = 0
      ·by_cases k:firstB b.head = true/\b.events.length = 0
       ·exact .inl ⟨h0,k⟩
       ·rw [stepT_one f h1 o h0 k] at h;cases h
      ·rw [stepT_join f h1 o h0] at h;exact .inr ⟨h0,h⟩
   ·rw [stepT_head f h1] at h;exact absurd h h1
def treeStep (tr:List Blk) (i:Nat):Int:=stepT ((J2 tr).take i) (tr.getD i Blk0) i
def treeGo (tr:List Blk):Nat->Nat->Int
 | 0,_=>0
 | n + 1,i=>if treeStep tr i = 0 then treeGo tr n (i + 1) else treeStep tr i
def Y1 (tr:List Blk):Int:=if tr.length = 0 then 4 else if 24 < tr.length then 2 else treeGo tr tr.length 0
theorem treeGo_zero (tr:List Blk):∀ (n i:Nat),treeGo tr n i = 0->∀ j,i<=j->j < i + n->treeStep tr j = 0
 | 0,i,_,j,h1,h2=>by omega
 | n + 1,i,h,j,h1,h2=>by
   rw [treeGo] at h
   by_cases h0:treeStep tr i = 0
   ·rw [if_pos h0] at h
    by_cases e:j = i
    ·rw [e];exact h0
    ·exact treeGo_zero tr n (i + 1) h j (by omega) (by omega)
   ·rw [if_neg h0] at h;exact absurd h h0
theorem tree_joined {tr:List Blk} (h:∀ j,j < tr.length->treeStep tr j = 0):∀ k,k<=tr.length->Joined ((J2 tr).take k)
 | 0,_=>joined_nil
 | k + 1,hk=>by
   obtain ⟨_,h1,_,h3⟩:=stepT_zero (h k (by omega))
   have hl:=headsL_length tr
   refine joined_step (by omega) (tree_joined h k (by omega)) ?_ ?_
   ·rw [headsL_getD tr k (by omega)];exact h1
   ·rw [headsL_getD tr k (by omega)]
    rcases h3 with ⟨q,_⟩|⟨_,q⟩
    ·exact .inl q
    ·exact .inr q
theorem tree_zero {tr:List Blk} (h:Y1 tr = 0):0 < tr.length/\tr.length<=24/\(∀ j,j < tr.length->treeStep tr j = 0)/\Joined (J2 tr):=by
 unfold Y1 at h
 split at h
 ·cases h
 ·split at h
  ·cases h
  ·rename_i a b
   have hs:∀ j,j < tr.length->treeStep tr j = 0:=λ j hj=>treeGo_zero tr tr.length 0 h j (by omega) (by omega)
   have:=tree_joined hs tr.length (Nat.le_refl _)
   rw [<-headsL_length tr,List.take_length] at this
   exact ⟨by omega,by omega,hs,this⟩
theorem treeFault_cv (tr:List Blk) (hl:tr.length<=1048576) (he:∀ b∈tr,b.events.length<=1048576):CV Tryz.prog 39 [blkAS tr] (· = .int .i64 (Y1 tr)):=by
 refine J7 Qc Tryz.func39 (by kernel_rfl) rfl 71 rfl (by simp) [.tmp 2] rfl ?_
 intro w0 ok0
 have hml:(tr.map blkA).length = tr.length:=by simp
 by_cases a2:tr.length = 0
 ·have d2:decide (((tr.map blkA).length:Int) = 0) = true:=decide_eq_true (by omega)
  rw [show Y1 tr = 4 from if_pos a2]
  repeat' (first|refine Qh ?_|refine Q9 ?_|refine J8 ?_|refine Ui ?_|refine Q8 Qc ?_|refine Qi ?_|refine Qu ?_|refine Qo ?_|(apply Jr;exact rfl;(· (repeat' (first|exact Qb _ _|exact Qj _|exact Qn _);done)))|(apply Jf;exact rfl;(· (first|assumption|exact rfl)))|apply Qd|apply Q2|(apply S_eql;exact Q0 rfl;exact Q0 rfl)|(apply Qp;exact rfl;exact Q0 rfl)|exact Q0 rfl|exact rfl|fail)
 have d2:decide (((tr.map blkA).length:Int) = 0) = false:=decide_eq_false (by omega)
 by_cases a3:24 < tr.length
 ·have d3:decide ((24:Int) < ((tr.map blkA).length:Int)) = true:=decide_eq_true (by omega)
  rw [show Y1 tr = 2 by unfold Y1;rw [if_neg a2,if_pos a3]]
  repeat' (first|refine Qh ?_|refine Q9 ?_|refine J8 ?_|refine Ui ?_|refine Q8 Qc ?_|refine Qi ?_|refine Qu ?_|refine Qo ?_|(apply Jr;exact rfl;(· (repeat' (first|exact Qb _ _|exact Qj _|exact Qn _);done)))|(apply Jf;exact rfl;(· (first|assumption|exact rfl)))|(apply J9;exact rfl;(· (first|assumption|exact rfl)))|apply Qd|apply Q2|apply S_gtr|(apply S_eql;exact Q0 rfl;exact Q0 rfl)|(apply Qp;exact rfl;exact Q0 rfl)|exact Q0 rfl|exact rfl|fail)
 have d3:decide ((24:Int) < ((tr.map blkA).length:Int)) = false:=decide_eq_false (by omega)
 have hF:Y1 tr = treeGo tr (tr.length - 0) 0:=by unfold Y1;rw [if_neg a2,if_neg a3];rfl
 rw [hF]
 generalize hR:treeGo tr (tr.length - 0) 0 = R at *
 have cH:=headsOf_cv tr hl
 have hhl:=headsL_length tr
 repeat' (first|refine Qh ?_|refine Q9 ?_|refine U9 ?_|refine Q8 Qc ?_|refine Qi ?_|refine Qw ?_|refine Qo ?_|(apply J9;exact rfl;(· (first|assumption|exact rfl)))|apply Qd|apply Q2|apply S_gtr|(apply S_eql;exact Q0 rfl;exact Q0 rfl)|(apply Qp;exact rfl;exact Q0 rfl)|apply Jl (f:=59)|apply cH|exact Qe.out|exact Q0 rfl|exact Ql|(apply Qg;exact Q0 rfl)|exact rfl|fail)
 refine Js (α:=Nat) (λ k=>⟨[(3,hdAS (J2 tr)),(18,blkAS tr),(19,.int .i64 (tr.map blkA).length),(20,.int .i64 k)],[],0⟩)
  (λ k=>tr.length - k) (λ k=>k<=tr.length/\Joined ((J2 tr).take k)/\R = treeGo tr (tr.length - k) k) 0 ((Jp (by repeat' (first|exact Qy|refine Qr rfl ?_)) (by repeat' (first|exact Qz|refine Qt (by first|rfl|exact congrArg (λ l=>some (Box.mk l _ _ _)) hset) ?_)) (Nat.le_refl _))).sub ⟨by omega,joined_nil,hR.symm⟩ ?_
 rintro k ⟨hk,hJ,hI⟩
 by_cases hkl:k < tr.length
 case neg =>
  have d4:decide ((k:Int) < ((tr.map blkA).length:Int)) = false:=decide_eq_false (by omega)
  obtain rfl:k = tr.length:=by omega
  rw [Nat.sub_self,treeGo] at hI
  rw [hI]
  repeat' (first|refine Qh ?_|refine Q9 ?_|refine Ua ?_|refine Jt ?_|refine Jo ?_|refine Q8 Qc ?_|refine Qi ?_|refine Qu ?_|refine Un ?_|(apply Jr;exact rfl;(· (repeat' (first|exact Qb _ _|exact Qj _|exact Qn _);done)))|(apply J9;exact rfl;(· (first|assumption|exact rfl)))|apply Q2|apply Jd|exact Q0 rfl|exact rfl|fail)
 have d4:decide ((k:Int) < ((tr.map blkA).length:Int)) = true:=decide_eq_true (by omega)
 have hget:=Uy blkA tr Blk0 (k:=k) (by omega)
 have hw:IntKind.wrap .i64 ((k:Int) + 1) = ((k + 1:Nat):Int):=by rw [wrap_i64 (by omega) (by omega)];omega
 have t1:=map_takeF hdA (J2 tr) k
 have hjs:=joined_step (hs:=J2 tr) (k:=k) (by omega) hJ
 rw [headsL_getD tr k hkl] at hjs
 rw [show tr.length - k = (tr.length - (k + 1)) + 1 by omega,treeGo] at hI
 have hS:treeStep tr k = stepT ((J2 tr).take k) (tr.getD k Blk0) k:=rfl
 rw [hS] at hI
 clear hS
 have hev:=he _ (getD_mem tr Blk0 hkl)
 generalize tr.getD k Blk0 = b at *
 have c1:=areEvents_cv b.events hev
 cases g1:fewB b.events with
 | false =>
   rw [g1] at c1
   have e1:(!false) = true:=rfl
   rw [stepT_many g1,if_neg (by decide)] at hI
   rw [hI]
   repeat' (first|refine Qh ?_|refine Q9 ?_|refine J8 ?_|refine Ui ?_|refine Ya ?_|refine Q8 Qc ?_|refine Qi ?_|refine Qw ?_|refine Qu ?_|refine Qo ?_|(apply Jr;exact rfl;(· (repeat' (first|exact Qb _ _|exact Qj _|exact Qn _);done)))|(apply Jf;exact rfl;(· (first|assumption|exact rfl)))|apply Qd|apply Q2|(apply Jj;exact rfl;exact Q0 rfl;(iterate 3 exact rfl);(· (first|exact ⟨rfl,rfl⟩|exact ⟨rfl,trivial⟩|assumption)))|(apply Uo;exact rfl;exact Q0 rfl;exact rfl;exact rfl)|(apply J6;(iterate 4 exact rfl);exact Q0 rfl)|apply Jd|apply S_not|apply U0|(apply Jg;exact rfl;exact Q0 rfl;(iterate 4 exact rfl))|(apply Jk;exact rfl;exact rfl;exact Q0 rfl;exact Q0 rfl)|apply Qk (f:=68)|apply c1|exact Qa|apply Q3|(apply View.pure;exact Q4.out)|exact Jq.out|exact Q0 rfl|exact Ql|(apply Qg;exact Q0 rfl)|exact Q5 rfl rfl|assumption|(refine ⟨?_,?_⟩<;>omega)|exact rfl|fail)
 | true =>
 rw [g1] at c1
 have e1:(!true) = false:=rfl
 have c2:=hdFault_cv b.head
 by_cases g2:¬ Jw b.head = 0
 ·have e2:(!decide (Jw b.head = 0)) = true:=by rw [decide_eq_false g2];rfl
  rw [stepT_head g1 g2,if_neg g2] at hI
  rw [hI]
  repeat' (first|refine Qh ?_|refine Q9 ?_|refine J8 ?_|refine Ui ?_|refine Ya ?_|refine Q8 Qc ?_|refine Qi ?_|refine Qw ?_|refine Qu ?_|refine Qo ?_|(apply Jr;exact rfl;(· (repeat' (first|exact Qb _ _|exact Qj _|exact Qn _);done)))|(apply Jf;exact rfl;(· (first|assumption|exact rfl)))|(apply J9;exact rfl;(· (first|assumption|exact rfl)))|apply Qd|apply Q2|(apply Jj;exact rfl;exact Q0 rfl;(iterate 3 exact rfl);(· (first|exact ⟨rfl,rfl⟩|exact ⟨rfl,trivial⟩|assumption)))|(apply M_loadA;exact rfl;exact rfl;exact Q0 rfl;exact rfl;exact rfl;(· (repeat' constructor)))|(apply Uo;exact rfl;exact Q0 rfl;exact rfl;exact rfl)|(apply J6;(iterate 4 exact rfl);exact Q0 rfl)|apply Jd|(apply Y4;exact Q0 rfl;exact Q0 rfl)|apply S_not|apply U0|(apply Jg;exact rfl;exact Q0 rfl;(iterate 4 exact rfl))|(apply Jk;exact rfl;exact rfl;exact Q0 rfl;exact Q0 rfl)|apply Qk (f:=68)|apply c1|apply Qk (f:=90)|apply c2|exact Qa|apply Q3|(apply View.pure;exact Q4.out)|exact Jq.out|exact Q0 rfl|exact Ql|(apply Qg;exact Q0 rfl)|exact Q5 rfl rfl|assumption|(refine ⟨?_,?_⟩<;>omega)|exact rfl|fail)
 replace g2:=Classical.not_not.1 g2
 rw [g2] at c2
 have e2:(!decide ((0:Int) = 0)) = false:=rfl
 have hfw:=few_len g1
 have c3:=rootOf_cv b.events.length b.events rfl (by omega) (λ w hw=>by have:=hfw.2 w hw;omega)
 have c4:=equal_cv b.head.root (rootL b.events)
 have c5:=isHard_cv b.head g2
 cases g3:okBlk b with
 | false =>
   rw [stepT_proof g1 g2 g3,if_neg (by decide)] at hI
   rw [hI]
   unfold okBlk at g3
   by_cases q1:b.head.root = rootL b.events
   ·rw [decide_eq_true q1] at c4 g3
    rw [Bool.true_and] at g3
    rw [g3] at c5
    have e3:(!false) = true:=rfl
    repeat' (first|refine Qh ?_|refine Q9 ?_|refine J8 ?_|refine Ui ?_|refine Ya ?_|refine Q8 Qc ?_|(apply T_drawM (id:=14) 6 Qc Uw;exact rfl;exact rfl;(· kernel_rfl);exact Nat.le_of_ble_eq_true rfl)|refine Qi ?_|refine Qw ?_|refine Qu ?_|refine Qo ?_|(apply Jr;exact rfl;(· (repeat' (first|exact Qb _ _|exact Qj _|exact Qn _);done)))|(apply Jf;exact rfl;(· (first|assumption|exact rfl)))|(apply J9;exact rfl;(· (first|assumption|exact rfl)))|(apply S_gf;exact rfl;exact rfl;(· (first|assumption|exact rfl)))|apply Qd|apply Q2|(apply Uj;exact Q0 rfl;(· (first|assumption|exact rfl)))|(apply Jj;exact rfl;exact Q0 rfl;(iterate 3 exact rfl);(· (first|exact ⟨rfl,rfl⟩|exact ⟨rfl,trivial⟩|assumption)))|(apply M_loadA;exact rfl;exact rfl;exact Q0 rfl;exact rfl;exact rfl;(· (repeat' constructor)))|(apply Uo;exact rfl;exact Q0 rfl;exact rfl;exact rfl)|(apply J6;(iterate 4 exact rfl);exact Q0 rfl)|apply Jd|(apply Y4;exact Q0 rfl;exact Q0 rfl)|apply S_not|apply U0|(apply Jg;exact rfl;exact Q0 rfl;(iterate 4 exact rfl))|(apply Jk;exact rfl;exact rfl;exact Q0 rfl;exact Q0 rfl)|apply Qk (f:=68)|apply c1|apply Qk (f:=90)|apply c2|apply Jl|apply c3|apply c4|apply c5|exact Qa|apply Q3|(apply View.pure;exact Q4.out)|exact Jq.out|exact Qe.out|exact Q0 rfl|exact Ql|(apply Qg;exact Q0 rfl)|exact Q5 rfl rfl|assumption|(refine ⟨?_,?_⟩<;>omega)|exact rfl|fail)
   ·rw [decide_eq_false q1] at c4
    have e3:(!false) = true:=rfl
    repeat' (first|refine Qh ?_|refine Q9 ?_|refine J8 ?_|refine Ui ?_|refine Ya ?_|refine Q8 Qc ?_|(apply T_drawM (id:=14) 6 Qc Uw;exact rfl;exact rfl;(· kernel_rfl);exact Nat.le_of_ble_eq_true rfl)|refine Qi ?_|refine Qw ?_|refine Qu ?_|refine Qo ?_|(apply Jr;exact rfl;(· (repeat' (first|exact Qb _ _|exact Qj _|exact Qn _);done)))|(apply Jf;exact rfl;(· (first|assumption|exact rfl)))|(apply J9;exact rfl;(· (first|assumption|exact rfl)))|(apply S_gfT';(iterate 3 exact rfl);(· (first|assumption|exact rfl)))|apply Qd|apply Q2|(apply S_pickT;exact Q0 rfl;(· (first|assumption|exact rfl)))|(apply Jj;exact rfl;exact Q0 rfl;(iterate 3 exact rfl);(· (first|exact ⟨rfl,rfl⟩|exact ⟨rfl,trivial⟩|assumption)))|(apply M_loadA;exact rfl;exact rfl;exact Q0 rfl;exact rfl;exact rfl;(· (repeat' constructor)))|(apply Uo;exact rfl;exact Q0 rfl;exact rfl;exact rfl)|(apply J6;(iterate 4 exact rfl);exact Q0 rfl)|apply Jd|(apply Y4;exact Q0 rfl;exact Q0 rfl)|apply S_not|apply U0|(apply Jg;exact rfl;exact Q0 rfl;(iterate 4 exact rfl))|(apply Jk;exact rfl;exact rfl;exact Q0 rfl;exact Q0 rfl)|apply Qk (f:=68)|apply c1|apply Qk (f:=90)|apply c2|apply Jl|apply c3|apply c4|exact Qa|apply Q3|(apply View.pure;exact Q4.out)|exact Jq.out|exact Qe.out|exact Q0 rfl|exact Ql|(apply Qg;exact Q0 rfl)|exact Q5 rfl rfl|assumption|(refine ⟨?_,?_⟩<;>omega)|exact rfl|fail)
 | true =>
 have g3':=g3
 unfold okBlk at g3'
 simp only [Bool.and_eq_true] at g3'
 rw [g3'.1] at c4
 rw [g3'.2] at c5
 by_cases h0:k = 0
 ·have d5:decide ((k:Int) = 0) = true:=decide_eq_true (by omega)
  have c6:=isFirst_cv b.head
  have hel:(b.events.map byA).length = b.events.length:=by simp
  by_cases q:firstB b.head = true/\b.events.length = 0
  ·rw [q.1] at c6
   have d6:decide ((0:Int) < ((b.events.map byA).length:Int)) = false:=decide_eq_false (by omega)
   rw [stepT_first g1 g2 g3 h0 q,if_pos rfl] at hI
   repeat' (first|refine Qh ?_|refine Q9 ?_|refine Ua ?_|refine Jt ?_|refine Q8 Qc ?_|(apply T_drawM (id:=14) 6 Qc Uw;exact rfl;exact rfl;(· kernel_rfl);exact Nat.le_of_ble_eq_true rfl)|refine Qi ?_|refine Qw ?_|refine Un ?_|refine Qo ?_|(apply Jf;exact rfl;(· (first|assumption|exact rfl)))|(apply J9;exact rfl;(· (first|assumption|exact rfl)))|(apply S_gf;exact rfl;exact rfl;(· (first|assumption|exact rfl)))|apply Qd|apply Q2|(apply Uj;exact Q0 rfl;(· (first|assumption|exact rfl)))|(apply Jj;exact rfl;exact Q0 rfl;(iterate 3 exact rfl);(· (first|exact ⟨rfl,rfl⟩|exact ⟨rfl,trivial⟩|assumption)))|(apply M_loadA;exact rfl;exact rfl;exact Q0 rfl;exact rfl;exact rfl;(· (repeat' constructor)))|(apply Uo;exact rfl;exact Q0 rfl;exact rfl;exact rfl)|(apply J6;(iterate 4 exact rfl);exact Q0 rfl)|apply Jd|apply S_gtr|(apply S_eql;exact Q0 rfl;exact Q0 rfl)|(apply Y4;exact Q0 rfl;exact Q0 rfl)|apply Y7|apply S_not|(apply Qp;exact rfl;exact Q0 rfl)|apply U0|(apply Jg;exact rfl;exact Q0 rfl;(iterate 4 exact rfl))|(apply Jk;exact rfl;exact rfl;exact Q0 rfl;exact Q0 rfl)|apply Qk (f:=68)|apply c1|apply Qk (f:=90)|apply c2|apply Jl|apply c3|apply c4|apply c5|apply c6|exact Qa|apply Q3|(apply View.pure;exact Q4.out)|exact Jq.out|exact Qe.out|exact Q0 rfl|exact Ql|(apply Qg;exact Q0 rfl)|exact Q5 rfl rfl|assumption|(refine ⟨?_,?_⟩<;>omega)|exact rfl|fail)
   exact U7 (k + 1) (sub_drop (by repeat' (first|exact Qy|refine Qr rfl ?_)) (by repeat' (first|exact Qz|refine Qt rfl ?_)) (by repeat' (first|exact lowE_nil|apply Ye|exact Low.sl _ _ _ _ (by decide)|exact Low.ptr _ _ _ (by decide)|(apply Low.pure;(first|exact Q4.out|exact Qe.out|assumption))|exact J0|apply Qq|apply U3|apply U2)) (by repeat' (first|exact lowB_nil|refine lowB_cons (by decide) (by (apply Uf.low;exact Q6.out)) ?_)) (Nat.zero_le _)) ⟨by omega,hjs g2 (.inl h0),hI⟩ (by omega)
  ·rw [stepT_one g1 g2 g3 h0 q,if_neg (by decide)] at hI
   rw [hI]
   cases f:firstB b.head with
   | false =>
     rw [f] at c6
     have e3:(!false) = true:=rfl
     repeat' (first|refine Qh ?_|refine Q9 ?_|refine J8 ?_|refine Ui ?_|refine Ya ?_|refine Q8 Qc ?_|(apply T_drawM (id:=14) 6 Qc Uw;exact rfl;exact rfl;(· kernel_rfl);exact Nat.le_of_ble_eq_true rfl)|refine Qi ?_|refine Qw ?_|refine Qu ?_|refine Qo ?_|(apply Jr;exact rfl;(· (repeat' (first|exact Qb _ _|exact Qj _|exact Qn _);done)))|(apply Jf;exact rfl;(· (first|assumption|exact rfl)))|(apply J9;exact rfl;(· (first|assumption|exact rfl)))|(apply S_gf;exact rfl;exact rfl;(· (first|assumption|exact rfl)))|(apply S_gfT';(iterate 3 exact rfl);(· (first|assumption|exact rfl)))|apply Qd|apply Q2|(apply S_pickT;exact Q0 rfl;(· (first|assumption|exact rfl)))|(apply Uj;exact Q0 rfl;(· (first|assumption|exact rfl)))|(apply Jj;exact rfl;exact Q0 rfl;(iterate 3 exact rfl);(· (first|exact ⟨rfl,rfl⟩|exact ⟨rfl,trivial⟩|assumption)))|(apply M_loadA;exact rfl;exact rfl;exact Q0 rfl;exact rfl;exact rfl;(· (repeat' constructor)))|(apply Uo;exact rfl;exact Q0 rfl;exact rfl;exact rfl)|(apply J6;(iterate 4 exact rfl);exact Q0 rfl)|apply Jd|(apply S_eql;exact Q0 rfl;exact Q0 rfl)|(apply Y4;exact Q0 rfl;exact Q0 rfl)|apply S_not|apply U0|(apply Jg;exact rfl;exact Q0 rfl;(iterate 4 exact rfl))|(apply Jk;exact rfl;exact rfl;exact Q0 rfl;exact Q0 rfl)|apply Qk (f:=68)|apply c1|apply Qk (f:=90)|apply c2|apply Jl|apply c3|apply c4|apply c5|apply c6|exact Qa|apply Q3|(apply View.pure;exact Q4.out)|exact Jq.out|exact Qe.out|exact Q0 rfl|exact Ql|(apply Qg;exact Q0 rfl)|exact Q5 rfl rfl|assumption|(refine ⟨?_,?_⟩<;>omega)|exact rfl|fail)
   | true =>
     rw [f] at c6
     have hne:¬ b.events.length = 0:=λ z=>q ⟨f,z⟩
     have d6:decide ((0:Int) < ((b.events.map byA).length:Int)) = true:=decide_eq_true (by omega)
     repeat' (first|refine Qh ?_|refine Q9 ?_|refine J8 ?_|refine Ui ?_|refine Ya ?_|refine Q8 Qc ?_|(apply T_drawM (id:=14) 6 Qc Uw;exact rfl;exact rfl;(· kernel_rfl);exact Nat.le_of_ble_eq_true rfl)|refine Qi ?_|refine Qw ?_|refine Qu ?_|refine Qo ?_|(apply Jr;exact rfl;(· (repeat' (first|exact Qb _ _|exact Qj _|exact Qn _);done)))|(apply Jf;exact rfl;(· (first|assumption|exact rfl)))|(apply J9;exact rfl;(· (first|assumption|exact rfl)))|(apply S_gf;exact rfl;exact rfl;(· (first|assumption|exact rfl)))|apply Qd|apply Q2|(apply Uj;exact Q0 rfl;(· (first|assumption|exact rfl)))|(apply Jj;exact rfl;exact Q0 rfl;(iterate 3 exact rfl);(· (first|exact ⟨rfl,rfl⟩|exact ⟨rfl,trivial⟩|assumption)))|(apply M_loadA;exact rfl;exact rfl;exact Q0 rfl;exact rfl;exact rfl;(· (repeat' constructor)))|(apply Uo;exact rfl;exact Q0 rfl;exact rfl;exact rfl)|(apply J6;(iterate 4 exact rfl);exact Q0 rfl)|apply Jd|apply S_gtr|(apply S_eql;exact Q0 rfl;exact Q0 rfl)|(apply Y4;exact Q0 rfl;exact Q0 rfl)|apply S_not|(apply Qp;exact rfl;exact Q0 rfl)|apply U0|(apply Jg;exact rfl;exact Q0 rfl;(iterate 4 exact rfl))|(apply Jk;exact rfl;exact rfl;exact Q0 rfl;exact Q0 rfl)|apply Qk (f:=68)|apply c1|apply Qk (f:=90)|apply c2|apply Jl|apply c3|apply c4|apply c5|apply c6|exact Qa|apply Q3|(apply View.pure;exact Q4.out)|exact Jq.out|exact Qe.out|exact Q0 rfl|exact Ql|(apply Qg;exact Q0 rfl)|exact Q5 rfl rfl|assumption|(refine ⟨?_,?_⟩<;>omega)|exact rfl|fail)
 ·have d5:decide ((k:Int) = 0) = false:=decide_eq_false (by omega)
  rw [stepT_join g1 g2 g3 h0] at hI
  have c7:=joinFault_cv ((J2 tr).take k) b.head hJ g2 (by rw [List.length_take];omega)
  by_cases q:joinF ((J2 tr).take k) b.head = 0
  ·rw [if_pos q] at hI
   rw [q] at c7
   repeat' (first|refine Qh ?_|refine Q9 ?_|refine U9 ?_|refine Q8 Qc ?_|(apply T_drawM (id:=14) 6 Qc Uw;exact rfl;exact rfl;(· kernel_rfl);exact Nat.le_of_ble_eq_true rfl)|(apply T_drawM (id:=19) 5 Qc Uw;exact rfl;exact rfl;(· kernel_rfl);exact Nat.le_of_ble_eq_true rfl)|refine Qi ?_|refine Qw ?_|refine Qo ?_|(apply Jf;exact rfl;(· (first|assumption|exact rfl)))|(apply J9;exact rfl;(· (first|assumption|exact rfl)))|(apply S_gf;exact rfl;exact rfl;(· (first|assumption|exact rfl)))|apply Qd|apply Q2|(apply Uj;exact Q0 rfl;(· (first|assumption|exact rfl)))|(apply Jj;exact rfl;exact Q0 rfl;(iterate 3 exact rfl);(· (first|exact ⟨rfl,rfl⟩|exact ⟨rfl,trivial⟩|assumption)))|(apply M_loadA;exact rfl;exact rfl;exact Q0 rfl;exact rfl;exact rfl;(· (repeat' constructor)))|(apply Uo;exact rfl;exact Q0 rfl;exact rfl;exact rfl)|(apply J6;(iterate 4 exact rfl);exact Q0 rfl)|apply Jd|(apply S_eql;exact Q0 rfl;exact Q0 rfl)|(apply Y4;exact Q0 rfl;exact Q0 rfl)|apply Y7|apply S_not|apply U0|(apply Jg;exact rfl;exact Q0 rfl;(iterate 4 exact rfl))|(apply Jk;exact rfl;exact rfl;exact Q0 rfl;exact Q0 rfl)|(apply M_slLs;exact rfl;exact rfl;exact Q0 rfl;exact rfl)|apply Qk (f:=68)|apply c1|apply Qk (f:=90)|apply c2|apply Jl|apply c3|apply c4|apply c5|apply c7|exact Qa|apply Q3|(apply View.pure;exact Q4.out)|(apply mtake;first|assumption|exact Ux (by first|rfl|(simp;done))|exact rfl)|exact Jq.out|exact Qe.out|(apply mlen;first|exact rfl|assumption|exact Nat.le_of_ble_eq_true rfl|omega|(simp [Q1];done)|(simp [Q1];omega))|(apply mtake;first|assumption|exact Ux (by first|rfl|(simp;done))|exact rfl)|(apply mnat;first|exact Int.toNat_natCast _|exact rfl)|exact Bd.no _|(apply bd_at;exact Q0 rfl)|exact Q0 rfl|exact Ql|(apply Qg;exact Q0 rfl)|exact Q5 rfl rfl|assumption|(refine ⟨?_,?_⟩<;>omega)|omega|exact rfl|fail)
   exact U7 (k + 1) (sub_drop (by repeat' (first|exact Qy|refine Qr rfl ?_)) (by repeat' (first|exact Qz|refine Qt rfl ?_)) (by repeat' (first|exact lowE_nil|apply Ye|exact Low.sl _ _ _ _ (by decide)|exact Low.ptr _ _ _ (by decide)|(apply Low.pure;(first|exact Q4.out|exact Qe.out|assumption))|exact J0|apply Qq|apply U3|apply U2)) (by repeat' (first|exact lowB_nil|refine lowB_cons (by decide) (by (apply Uf.low;exact Q6.out)) ?_)) (Nat.zero_le _)) ⟨by omega,hjs g2 (.inr q),hI⟩ (by omega)
  ·have e3:(!decide (joinF ((J2 tr).take k) b.head = 0)) = true:=by rw [decide_eq_false q];rfl
   rw [if_neg q] at hI
   rw [hI]
   repeat' (first|refine Qh ?_|refine Q9 ?_|refine J8 ?_|refine Ui ?_|refine Ya ?_|refine Q8 Qc ?_|(apply T_drawM (id:=14) 6 Qc Uw;exact rfl;exact rfl;(· kernel_rfl);exact Nat.le_of_ble_eq_true rfl)|(apply T_drawM (id:=19) 5 Qc Uw;exact rfl;exact rfl;(· kernel_rfl);exact Nat.le_of_ble_eq_true rfl)|refine Qi ?_|refine Qw ?_|refine Qu ?_|refine Qo ?_|(apply Jr;exact rfl;(· (repeat' (first|exact Qb _ _|exact Qj _|exact Qn _);done)))|(apply Jf;exact rfl;(· (first|assumption|exact rfl)))|(apply J9;exact rfl;(· (first|assumption|exact rfl)))|(apply S_gf;exact rfl;exact rfl;(· (first|assumption|exact rfl)))|apply Qd|apply Q2|(apply Uj;exact Q0 rfl;(· (first|assumption|exact rfl)))|(apply Jj;exact rfl;exact Q0 rfl;(iterate 3 exact rfl);(· (first|exact ⟨rfl,rfl⟩|exact ⟨rfl,trivial⟩|assumption)))|(apply M_loadA;exact rfl;exact rfl;exact Q0 rfl;exact rfl;exact rfl;(· (repeat' constructor)))|(apply Uo;exact rfl;exact Q0 rfl;exact rfl;exact rfl)|(apply J6;(iterate 4 exact rfl);exact Q0 rfl)|apply Jd|(apply S_eql;exact Q0 rfl;exact Q0 rfl)|(apply Y4;exact Q0 rfl;exact Q0 rfl)|apply S_not|apply U0|(apply Jg;exact rfl;exact Q0 rfl;(iterate 4 exact rfl))|(apply Jk;exact rfl;exact rfl;exact Q0 rfl;exact Q0 rfl)|(apply M_slLs;exact rfl;exact rfl;exact Q0 rfl;exact rfl)|apply Qk (f:=68)|apply c1|apply Qk (f:=90)|apply c2|apply Jl|apply c3|apply c4|apply c5|apply c7|exact Qa|apply Q3|(apply View.pure;exact Q4.out)|(apply mtake;first|assumption|exact Ux (by first|rfl|(simp;done))|exact rfl)|exact Jq.out|exact Qe.out|(apply mlen;first|exact rfl|assumption|exact Nat.le_of_ble_eq_true rfl|omega|(simp [Q1];done)|(simp [Q1];omega))|(apply mtake;first|assumption|exact Ux (by first|rfl|(simp;done))|exact rfl)|(apply mnat;first|exact Int.toNat_natCast _|exact rfl)|exact Bd.no _|(apply bd_at;exact Q0 rfl)|exact Q0 rfl|exact Ql|(apply Qg;exact Q0 rfl)|exact Q5 rfl rfl|assumption|(refine ⟨?_,?_⟩<;>omega)|omega|exact rfl|fail)
end Go.Proofs.YtaolmfgpebncjaaGreat
