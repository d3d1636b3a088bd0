/- Heads that are mined, in boxes of their own. -/
import Derived.Test.YtaolmfgpebncjaaGreatZzm
import Derived.Test.YtaolmfgpebncjaaGreatWt
import Derived.Test.YtaolmfgpebncjaaGreatGj
set_option maxRecDepth 100000
set_option maxHeartbeats 3200000
set_option linter.unusedSimpArgs false
set_option linter.unusedVariables false
namespace Go.Proofs.YtaolmfgpebncjaaGreat
open Go.Av
attribute [local irreducible] T thenQ Uv Y0 Uz WX retV retR Gt Gts GtsP Qs CV CR Av.Pure
attribute [local irreducible] sha zerosL lz8 Jw mineL
theorem flat_bytes (l:List UInt8):∀ x∈bA l,∀ y∈x.cells,Flat y:=λ x hx y hy=>by
 obtain ⟨b,_,rfl⟩:=List.mem_map.1 hx
 simp [AV.cells] at hy
 subst hy
 exact flat_int _ _
abbrev wordsB (i j:Nat) (x:Hd):AV:=.ls 1 false true [.sl i 0 x.parent.length x.parent.length,byA (putN x.height),byA (putN x.time),byA (putN x.zeros),.sl j 0 x.root.length x.root.length]
theorem wordsB_called (i j:Nat) (x:Hd):Called [i,j] (wordsB 0 1 x) (wordsB i j x):=by
 refine called_ls (calledL_cons (called_sl rfl) (calledL_cons (called_pure Q4.out) (calledL_cons (called_pure Q4.out) (calledL_cons (called_pure Q4.out) (calledL_cons (called_sl rfl) calledL_nil))))) ?_ ?_ ?_
 ·intro y hy
  simp only [List.mem_cons,List.not_mem_nil,or_false] at hy
  rcases hy with rfl|rfl|rfl|rfl|rfl<;>rfl
 ·intro y hy
  simp only [List.mem_cons,List.not_mem_nil,or_false] at hy
  rcases hy with rfl|rfl|rfl|rfl|rfl<;>rfl
 ·intro k a b ha hb
  match k,ha,hb with
  | 0,ha,hb|1,ha,hb|2,ha,hb|3,ha,hb|4,ha,hb =>
    obtain rfl:=Option.some.inj ha
    obtain rfl:=Option.some.inj hb
    rfl
  | _ + 5,ha,_=>simp at ha
theorem hdB_called (i j:Nat) (x:Hd):CalledL [i,j] [hdB 0 1 x] [hdB i j x] :=
 calledL_cons (called_agg (calledL_cons (called_sl rfl) (calledL_cons (called_pure Q4.out) (calledL_cons (called_pure Q4.out) (calledL_cons (called_pure Q4.out) (calledL_cons (called_sl rfl) (calledL_cons (called_pure Q4.out) calledL_nil))))))) calledL_nil
theorem hdWords_par (x:Hd):CR Tryz.prog 130 [hdB 0 1 x] [] 2 (λ r _ _=>r = wordsB 0 1 x):=by
 refine CR_intro Qc Tryz.func130 (by kernel_rfl) rfl 17 rfl (by simp) [.tmp 2] rfl ?_
 intro w0 ok0 wr φ0
 have c0:=number_cv x.height
 have c1:=number_cv x.time
 have c2:=number_cv x.zeros
 repeat' (first|refine Qh ?_|refine Q9 ?_|refine Q8 Qc ?_|(apply Ur Qc Uw;(· kernel_rfl))|refine Qi ?_|apply Q2|(apply Jj;exact rfl;exact Q0 rfl;(iterate 3 exact rfl);(· (first|exact ⟨rfl,rfl⟩|exact ⟨rfl,trivial⟩|assumption)))|(apply J6;(iterate 4 exact rfl);exact Q0 rfl)|apply Yd|(apply S_buildV Qc;exact rfl;exact rfl)|apply Jl (f:=131)|apply c0|apply c1|apply c2|exact Qe.out|exact U4|(apply Ug;exact Q0 rfl)|exact Uc|apply Uq|(intro hu;cases hu;done)|exact Q0 rfl|exact Ql|(apply Qg;exact Q0 rfl)|exact Q5 rfl rfl|exact Nat.le_of_ble_eq_true rfl|exact rfl|fail)
 refine Qu ?_
 (apply E_Par<;>repeat' (first|exact J4|(apply J3;exact rfl)|(apply Qx;(iterate 6 exact rfl))|(apply J5;(iterate 4 exact rfl);(· (first|assumption|exact rfl)))|exact rfl))
theorem mined_lent (x:Hd) (s:Bool) (tries:Int) (h:Jw x = 0) (ht:0<=tries/\tries<=5000):CR Tryz.prog 73 [hdB 0 1 x,.int .i64 tries] [(0,boxH s x.parent),(1,boxH s x.root)] 2
  (Is (.tup [hdB 0 1 (withN x (if 0<=Y8 x tries then Y8 x tries else 0)),.bool (decide (0<=Y8 x tries))]) [(0,boxH s x.parent),(1,boxH s x.root)] 2):=by
 refine Us Qc Tryz.func73 (by kernel_rfl) rfl 22 rfl (by simp) [.cell 4 39,.tmp 5] rfl ?_
 intro w0 ok0 wr φ0
 obtain ⟨h1,h2,h3⟩:=hdWs_pack h
 have c0:=hdWords_par x
 have hcr:=wordsB_called 0 1 x
 have hca:=hdB_called 0 1 x
 have c1:∀ N,CR Tryz.prog 129 [Y2 (hdWs x)] [] N (Is (.sl N 0 (Uk (hdWs x)).length (Uk (hdWs x)).length) [(N,some ⟨bA (Uk (hdWs x)),1,true,false⟩)] (N + 1)):=λ N=>pack_cr (hdWs x) (by omega) (λ w hw=>by have:=h2 w hw;omega) (by omega) N
 have c2:=easiest_cv (Uk (hdWs x)) x.zeros tries (by omega) ht
 have hM:mineL (Uk (hdWs x)) x.zeros tries = Y8 x tries:=rfl
 rw [hM] at c2
 have hb1:=Q1 x.parent
 have hb2:=Q1 x.root
 have hp:=Q1 (Uk (hdWs x))
 have e:Y2 (hdWs x) = sl1 [byA x.parent,byA (putN x.height),byA (putN x.time),byA (putN x.zeros),byA x.root]:=rfl
 rw [e] at c1
 generalize Y8 x tries = m at *
 generalize Uk (hdWs x) = P at *
 repeat' (first|refine Qh ?_|refine Q9 ?_|refine Q8 Qc ?_|(apply Ur Qc Uw;(· kernel_rfl))|refine Qi ?_|refine Qu ?_|apply Qd|apply Q2|(apply Jj;exact rfl;exact Q0 rfl;(iterate 3 exact rfl);(· (first|exact ⟨rfl,rfl⟩|exact ⟨rfl,trivial⟩|assumption)))|(apply Yc;exact rfl;exact Q0 rfl;(iterate 6 exact rfl))|(apply J6;(iterate 4 exact rfl);exact Q0 rfl)|apply S_extract|apply U0|apply Yd|(apply Jg;exact rfl;exact Q0 rfl;(iterate 4 exact rfl))|(apply S_storeF;exact rfl;exact Q0 rfl;(iterate 4 exact rfl);exact Q0 rfl;exact rfl;exact rfl;(· (repeat' constructor)))|(apply S_callP [0,1] (f:=130);(· repeat' (first|exact Ql|exact Q0 rfl|apply Qg));exact c0;assumption;assumption)|(apply S_callNew (f:=129);(· repeat' (first|exact Ql|exact Q0 rfl|apply Qg)))|exact flat_bytes _|(apply mlen;first|exact rfl|assumption|exact Nat.le_of_ble_eq_true rfl|omega|(simp [Q1];done)|(simp [Q1];omega))|apply c1|apply Qk (f:=136)|apply c2|exact Qa|apply Q3|exact viewE_nil|apply viewE_one|exact viewE_pure Q6.out|apply view_lsV|(apply View.pure;exact Q4.out)|(apply view_slM;exact rfl;(· (apply mlen;first|exact rfl|assumption|exact Nat.le_of_ble_eq_true rfl|omega|(simp [Q1];done)|(simp [Q1];omega)));exact Q6.out)|exact Jq.out|exact Q0 rfl|exact Ql|(apply Qg;exact Q0 rfl)|exact Q5 rfl rfl|exact rfl|fail)
 (apply E_U0 [(0,0),(1,1)]<;>repeat' (first|exact J4|(apply J3;exact rfl)|(apply Qx;(iterate 6 exact rfl))|(apply J5;(iterate 4 exact rfl);(· (first|assumption|exact rfl)))|exact Ren.sl _ _ _ _|(apply Ub;(· first|exact rfl|omega);(· first|exact rfl|assumption|(simp [Q1];done)|(simp [Q1];omega));(· first|exact rfl|assumption|(simp [Q1];done)|(simp [Q1];omega)))|exact Ren.ptr _ _ _|exact Qf|apply Q7|(apply Ren.pure;exact Q4.out)|apply Qm|apply Qv|exact Low.sl _ _ _ _ (by decide)|exact Low.ptr _ _ _ (by decide)|exact J0|apply Qq|(apply Low.pure;exact Q4.out)|apply U3|apply U2|exact Ji|(apply Jx;exact rfl;(· first|exact rfl|assumption|(simp [bA];done));exact Q6.out)|(apply Jh;exact rfl)|exact Jc|apply J1|(apply Uf.low;exact Q6.out)|apply Ju|exact Jv|(apply Yg;exact rfl)|exact Ud|apply Jz|apply lowX_cons|exact rfl))
theorem mined_at (x:Hd) (s:Bool) (tries:Int) (h:Jw x = 0) (ht:0<=tries/\tries<=5000) (i j N:Nat) (hi:i < N) (hj:j < N) (hij:i≠j):CR Tryz.prog 73 [hdB i j x,.int .i64 tries] [(i,boxH s x.parent),(j,boxH s x.root)] N
  (Is (.tup [hdB i j (withN x (if 0<=Y8 x tries then Y8 x tries else 0)),.bool (decide (0<=Y8 x tries))]) [(i,boxH s x.parent),(j,boxH s x.root)] N) :=
 (CR.toI (mined_lent x s tries h ht) [i,j] rfl (by simp [*]<;>omega) _ (by simp [*]<;>omega) (by repeat' (first|exact Ren.sl _ _ _ _|exact Ren.ptr _ _ _|exact Qf|apply Q7|(apply Ren.pure;exact Q4.out)|apply Qm|apply Qv|exact Jn|(apply Ja;exact rfl;exact Q6.out)|(apply Jm;exact rfl)|(apply Um;exact rfl)|exact Ud|apply Jz)) (by repeat' (first|exact Ren.sl _ _ _ _|exact Ren.ptr _ _ _|exact Qf|apply Q7|(apply Ren.pure;exact Q4.out)|apply Qm|apply Qv|exact Jn|(apply Ja;exact rfl;exact Q6.out)|(apply Jm;exact rfl)|(apply Um;exact rfl)|exact Ud|apply Jz)) (by omega) (by repeat' (first|exact Ren.sl _ _ _ _|exact Ren.ptr _ _ _|exact Qf|apply Q7|(apply Ren.pure;exact Q4.out)|apply Qm|apply Qv|exact Jn|(apply Ja;exact rfl;exact Q6.out)|(apply Jm;exact rfl)|(apply Um;exact rfl)|exact Ud|apply Jz)) (by repeat' (first|exact Ren.sl _ _ _ _|exact Ren.ptr _ _ _|exact Qf|apply Q7|(apply Ren.pure;exact Q4.out)|apply Qm|apply Qv|exact Jn|(apply Ja;exact rfl;exact Q6.out)|(apply Jm;exact rfl)|(apply Um;exact rfl)|exact Ud|apply Jz)))
theorem l5CopyHead_cr0 (x:Hd) (h1:x.parent.length<=1048576) (h2:x.root.length<=1048576):CR Tryz.prog 170 [hdA x] [] 0 (Is (hdB 0 (0 + 1) x) [(0,boxH true x.parent),(0 + 1,boxH true x.root)] (0 + 2)):=by
 refine Us Qc Tryz.func170 (by kernel_rfl) rfl 14 rfl (by simp) [.cell 2 39] rfl ?_
 intro w0 ok0 wr φ0
 repeat' (first|refine Qh ?_|refine Q9 ?_|refine Q8 Qc ?_|refine Qi ?_|refine Qu ?_|(apply Jj;exact rfl;exact Q0 rfl;(iterate 3 exact rfl);(· (first|exact ⟨rfl,rfl⟩|exact ⟨rfl,trivial⟩|assumption)))|(apply Yc;exact rfl;exact Q0 rfl;(iterate 6 exact rfl))|(apply J6;(iterate 4 exact rfl);exact Q0 rfl)|apply U0|apply Yd|(apply Jg;exact rfl;exact Q0 rfl;(iterate 4 exact rfl))|(apply S_storeF;exact rfl;exact Q0 rfl;(iterate 4 exact rfl);exact Q0 rfl;exact rfl;exact rfl;(· (repeat' constructor)))|(apply M_appB;exact rfl;exact rfl;exact Q0 rfl)|(apply S_buildL Qc;(iterate 3 exact rfl))|(apply mlen;first|exact rfl|assumption|exact Nat.le_of_ble_eq_true rfl|omega|(simp [Q1];done)|(simp [Q1];omega))|(apply msz;first|assumption|exact Nat.le_of_ble_eq_true rfl|(dsimp only;simp only [List.length_append,List.length_map,List.length_cons,List.length_nil,Q1,List.length_take,List.length_drop,List.length_replicate] at *;omega)|(dsimp only;omega))|(apply mnorm;first|with_reducible exact app_nil0 _|exact app_norm _ _|exact rfl)|exact Src.ls rfl rfl|(dsimp only;omega)|exact U4|exact Uc|exact Q0 rfl|exact Q5 rfl rfl|omega|exact rfl|fail)
 (apply E_U0 [(0,3),(1,5)]<;>repeat' (first|exact J4|(apply J3;exact rfl)|(apply Qx;(iterate 6 exact rfl))|(apply J5;(iterate 4 exact rfl);(· (first|assumption|exact rfl)))|exact Ren.sl _ _ _ _|(apply Ub;(· first|exact rfl|omega);(· first|exact rfl|assumption|(simp [Q1];done)|(simp [Q1];omega));(· first|exact rfl|assumption|(simp [Q1];done)|(simp [Q1];omega)))|exact Ren.ptr _ _ _|exact Qf|apply Q7|(apply Ren.pure;exact Q4.out)|apply Qm|apply Qv|exact Low.sl _ _ _ _ (by decide)|exact Low.ptr _ _ _ (by decide)|exact J0|apply Qq|(apply Low.pure;exact Q4.out)|apply U3|apply U2|exact Ji|(apply Jx;exact rfl;(· first|exact rfl|assumption|(simp [bA];done));exact Q6.out)|(apply Jh;exact rfl)|exact Jc|apply J1|(apply Uf.low;exact Q6.out)|apply Ju|exact Jv|(apply Yg;exact rfl)|exact Ud|apply Jz|apply lowX_cons|exact rfl))
theorem l5CopyHead_cr (x:Hd) (h1:x.parent.length<=1048576) (h2:x.root.length<=1048576) (N:Nat):CR Tryz.prog 170 [hdA x] [] N (Is (hdB N (N + 1) x) [(N,boxH true x.parent),(N + 1,boxH true x.root)] (N + 2)) :=
 CR.allN (l5CopyHead_cr0 x h1 h2) N (by first|exact Q4.out|exact Qe.out|assumption) (by repeat' (first|exact Ren.sl _ _ _ _|exact Ren.ptr _ _ _|exact Qf|apply Q7|(apply Ren.pure;(first|exact Q4.out|exact Qe.out|assumption))|apply Qm|apply Qv)) (by repeat' (first|exact Jn|(apply Ja;exact rfl;(· (exact Q6.out)))|(apply Jm;exact rfl)|exact Qf|apply Q7|exact Ren.sl _ _ _ _|exact Ren.ptr _ _ _|(apply Ren.pure;(first|exact Q4.out|exact Qe.out|assumption))|apply Qm))
theorem specMineHead_cr0 (x:Hd) (tries:Int) (h1:x.parent.length<=1048576) (h2:x.root.length<=1048576):CR Tryz.prog 123 [hdA x,.int .i64 tries] [] 0 (Is (hdResB 0 (0 + 1) (mnCode x tries) (mnHead x tries)) [(0,boxH true (mnHead x tries).parent),(0 + 1,boxH true (mnHead x tries).root)] (0 + 2)):=by
 refine Us Qc Tryz.func123 (by kernel_rfl) rfl 38 rfl (by simp) [.cell 4 143] rfl ?_
 intro w0 ok0 wr φ0
 have k0:=specHdFault_cv x
 by_cases g:Jw x = 0
 case neg =>
  obtain ⟨e1,e2⟩:=mn_bad (t:=tries) g
  rw [e1,e2]
  have d0:(!decide (Jw x = 0)) = true:=by rw [decide_eq_false g];rfl
  repeat' (first|refine Qh ?_|refine Q9 ?_|refine J8 ?_|refine Q8 Qc ?_|refine Qi ?_|refine Qu ?_|(apply Jf;exact rfl;(· (first|assumption|exact rfl)))|apply Qd|apply Q2|(apply Yc;exact rfl;exact Q0 rfl;(iterate 6 exact rfl))|(apply Y4;exact Q0 rfl;exact Q0 rfl)|apply U0|apply Yd|(apply Jg;exact rfl;exact Q0 rfl;(iterate 4 exact rfl))|(apply S_build;(iterate 3 exact rfl);(· (repeat' (first|exact gtsP_nil|exact Q0 rfl|apply gtsP_cons)));(· (repeat' (first|exact BuildR.nil _|(apply BuildR.cons;(iterate 4 exact rfl);(· (first|nofun|assumption));(· (repeat' constructor)))))))|apply Qk (f:=113)|apply k0|exact Qa|apply Q3|(apply View.pure;exact Q4.out)|exact Jq.out|exact Q0 rfl|exact Ql|(apply Qg;exact Q0 rfl)|exact Q5 rfl rfl|exact rfl|fail)
  (apply E_U2 [(0,2),(1,3)] 1 1<;>repeat' (first|exact J4|(apply J3;exact rfl)|(apply Qx;(iterate 6 exact rfl))|(apply J5;(iterate 4 exact rfl);(· (first|assumption|exact rfl)))|exact Ren.sl _ _ _ _|(apply Ub;(· first|exact rfl|omega);(· first|exact rfl|assumption|(simp [Q1];done)|(simp [Q1];omega));(· first|exact rfl|assumption|(simp [Q1];done)|(simp [Q1];omega)))|exact Ren.ptr _ _ _|exact Qf|apply Q7|(apply Ren.pure;exact Q4.out)|apply Qm|apply Qv|exact Low.sl _ _ _ _ (by decide)|exact Low.ptr _ _ _ (by decide)|exact J0|apply Qq|(apply Low.pure;exact Q4.out)|apply U3|apply U2|exact Ji|(apply Jx;exact rfl;(· first|exact rfl|assumption|(simp [bA];done));exact Q6.out)|(apply Jh;exact rfl)|exact Jc|apply J1|(apply Uf.low;exact Q6.out)|apply Ju|exact Jv|(apply Yg;exact rfl)|exact Ud|apply Jz|apply lowX_cons|exact rfl))
 rw [g] at k0
 have d0:(!decide ((0:Int) = 0)) = false:=rfl
 by_cases ht:0<=tries/\tries<=5000
 case neg =>
  obtain ⟨e1,e2⟩:=mn_range g ht
  rw [e1,e2]
  have r1:=rng_f ht
  repeat' (first|refine Qh ?_|refine Q9 ?_|refine J8 ?_|refine Q8 Qc ?_|refine Qi ?_|refine Qw ?_|refine Qu ?_|(apply Jf;exact rfl;(· (first|assumption|exact rfl)))|(apply J9;exact rfl;(· (first|assumption|exact rfl)))|apply Qd|apply Q2|(apply Yc;exact rfl;exact Q0 rfl;(iterate 6 exact rfl))|(apply Y4;exact Q0 rfl;exact Q0 rfl)|apply S_not|apply U0|apply Yd|(apply Jg;exact rfl;exact Q0 rfl;(iterate 4 exact rfl))|(apply S_build;(iterate 3 exact rfl);(· (repeat' (first|exact gtsP_nil|exact Q0 rfl|apply gtsP_cons)));(· (repeat' (first|exact BuildR.nil _|(apply BuildR.cons;(iterate 4 exact rfl);(· (first|nofun|assumption));(· (repeat' constructor)))))))|apply Qk (f:=113)|apply k0|apply Qk (f:=53)|apply l1In_cv|exact Qa|apply Q3|(apply View.pure;exact Q4.out)|exact Jq.out|exact Q0 rfl|exact Ql|(apply Qg;exact Q0 rfl)|exact Q5 rfl rfl|exact rfl|fail)
  (apply E_U2 [(0,2),(1,3)] 1 1<;>repeat' (first|exact J4|(apply J3;exact rfl)|(apply Qx;(iterate 6 exact rfl))|(apply J5;(iterate 4 exact rfl);(· (first|assumption|exact rfl)))|exact Ren.sl _ _ _ _|(apply Ub;(· first|exact rfl|omega);(· first|exact rfl|assumption|(simp [Q1];done)|(simp [Q1];omega));(· first|exact rfl|assumption|(simp [Q1];done)|(simp [Q1];omega)))|exact Ren.ptr _ _ _|exact Qf|apply Q7|(apply Ren.pure;exact Q4.out)|apply Qm|apply Qv|exact Low.sl _ _ _ _ (by decide)|exact Low.ptr _ _ _ (by decide)|exact J0|apply Qq|(apply Low.pure;exact Q4.out)|apply U3|apply U2|exact Ji|(apply Jx;exact rfl;(· first|exact rfl|assumption|(simp [bA];done));exact Q6.out)|(apply Jh;exact rfl)|exact Jc|apply J1|(apply Uf.low;exact Q6.out)|apply Ju|exact Jv|(apply Yg;exact rfl)|exact Ud|apply Jz|apply lowX_cons|exact rfl))
 have r1:=rng_t ht
 obtain ⟨q1,q2,q3⟩:=hdWs_pack g
 have hz:=(hd_zero g).2.2.2.1
 have c0:=l5Front_cv x
 have c1:CV Tryz.prog 168 [hdWA x] (· = sl1 (bA (Uk (hdWs x)))):=CR.byVal (l1Pack_cr (hdWs x) (by omega) (by omega) 0) (by rw [Q1]) (Yi _)
 have c2:=easiestNonce_cv (Uk (hdWs x)) x.zeros tries (by omega) hz ht
 have hM:mineL (Uk (hdWs x)) x.zeros tries = Y8 x tries:=rfl
 rw [hM] at c2
 have c3:=λ N=>l5CopyHead_cr x h1 h2 N
 have hp:=Q1 (Uk (hdWs x))
 by_cases gm:0<=Y8 x tries
 ·obtain ⟨e1,e2⟩:=mn_ok g ht gm
  rw [e1,e2]
  rw [if_pos gm,if_pos gm] at c2
  generalize Y8 x tries = m at *
  generalize Uk (hdWs x) = P at *
  repeat' (first|refine Qh ?_|refine Q9 ?_|refine Q8 Qc ?_|(apply T_drawQ (id:=6) 8 [7] Qc Uw;(iterate 3 exact rfl);(· kernel_rfl);(· kernel_rfl);exact Nat.le_of_ble_eq_true rfl)|refine Qi ?_|refine Qw ?_|refine Qu ?_|(apply J9;exact rfl;(· (first|assumption|exact rfl)))|apply Qd|apply Q2|(apply Jj;exact rfl;exact Q0 rfl;(iterate 3 exact rfl);(· (first|exact ⟨rfl,rfl⟩|exact ⟨rfl,trivial⟩|assumption)))|(apply Yc;exact rfl;exact Q0 rfl;(iterate 6 exact rfl))|(apply J6;(iterate 4 exact rfl);exact Q0 rfl)|(apply Y4;exact Q0 rfl;exact Q0 rfl)|apply S_not|apply U0|apply Yd|(apply Jg;exact rfl;exact Q0 rfl;(iterate 4 exact rfl))|(apply S_storeF;exact rfl;exact Q0 rfl;(iterate 4 exact rfl);exact Q0 rfl;exact rfl;exact rfl;(· (repeat' constructor)))|(apply S_build;(iterate 3 exact rfl);(· (repeat' (first|exact gtsP_nil|exact Q0 rfl|apply gtsP_cons)));(· (repeat' (first|exact BuildR.nil _|(apply BuildR.cons;(iterate 4 exact rfl);(· (first|nofun|assumption));(· (repeat' constructor)))))))|(apply L_alloc Qc;exact rfl;exact rfl;(· (first|exact Q5 rfl rfl|assumption));exact rfl;exact rfl)|apply Qk (f:=113)|apply k0|apply Jl (f:=169)|apply c0|apply Jl (f:=168)|apply c1|apply Qk (f:=167)|apply c2|apply S_callI (f:=170)|apply c3|apply Qk (f:=53)|apply l1In_cv|exact Qa|apply Q3|exact viewE_pure Q6.out|apply view_lsV|(apply View.pure;exact Q4.out)|exact Jq.out|exact OwnC.out|exact ownB_nil|(apply ownB_boxM;(· (apply mlen;first|exact rfl|assumption|exact Nat.le_of_ble_eq_true rfl|omega|(simp [Q1];done)|(simp [Q1];omega)));exact OwnEC.out)|exact Qe.out|exact Q0 rfl|exact Ql|(apply Qg;exact Q0 rfl)|exact Q5 rfl rfl|exact rfl|fail)
  (apply E_U0 [(0,3),(1,4)]<;>repeat' (first|exact J4|(apply J3;exact rfl)|(apply Qx;(iterate 6 exact rfl))|(apply J5;(iterate 4 exact rfl);(· (first|assumption|exact rfl)))|exact Ren.sl _ _ _ _|(apply Ub;(· first|exact rfl|omega);(· first|exact rfl|assumption|(simp [Q1];done)|(simp [Q1];omega));(· first|exact rfl|assumption|(simp [Q1];done)|(simp [Q1];omega)))|exact Ren.ptr _ _ _|exact Qf|apply Q7|(apply Ren.pure;exact Q4.out)|apply Qm|apply Qv|exact Low.sl _ _ _ _ (by decide)|exact Low.ptr _ _ _ (by decide)|exact J0|apply Qq|(apply Low.pure;exact Q4.out)|apply U3|apply U2|exact Ji|(apply Jx;exact rfl;(· first|exact rfl|assumption|(simp [bA];done));exact Q6.out)|(apply Jh;exact rfl)|exact Jc|apply J1|(apply Uf.low;exact Q6.out)|apply Ju|exact Jv|(apply Yg;exact rfl)|exact Ud|apply Jz|apply lowX_cons|exact rfl))
 ·obtain ⟨e1,e2⟩:=mn_none g ht gm
  rw [e1,e2]
  rw [if_neg gm,if_neg gm] at c2
  generalize Uk (hdWs x) = P at *
  have d2:(!decide ((4:Int) = 0)) = true:=rfl
  repeat' (first|refine Qh ?_|refine Q9 ?_|refine J8 ?_|refine Q8 Qc ?_|(apply T_drawQ (id:=6) 8 [7] Qc Uw;(iterate 3 exact rfl);(· kernel_rfl);(· kernel_rfl);exact Nat.le_of_ble_eq_true rfl)|refine Qi ?_|refine Qw ?_|refine Qu ?_|(apply Jf;exact rfl;(· (first|assumption|exact rfl)))|(apply J9;exact rfl;(· (first|assumption|exact rfl)))|apply Qd|apply Q2|(apply Jj;exact rfl;exact Q0 rfl;(iterate 3 exact rfl);(· (first|exact ⟨rfl,rfl⟩|exact ⟨rfl,trivial⟩|assumption)))|(apply Yc;exact rfl;exact Q0 rfl;(iterate 6 exact rfl))|(apply J6;(iterate 4 exact rfl);exact Q0 rfl)|(apply Y4;exact Q0 rfl;exact Q0 rfl)|apply S_not|apply U0|apply Yd|(apply Jg;exact rfl;exact Q0 rfl;(iterate 4 exact rfl))|(apply S_build;(iterate 3 exact rfl);(· (repeat' (first|exact gtsP_nil|exact Q0 rfl|apply gtsP_cons)));(· (repeat' (first|exact BuildR.nil _|(apply BuildR.cons;(iterate 4 exact rfl);(· (first|nofun|assumption));(· (repeat' constructor)))))))|(apply L_alloc Qc;exact rfl;exact rfl;(· (first|exact Q5 rfl rfl|assumption));exact rfl;exact rfl)|apply Qk (f:=113)|apply k0|apply Jl (f:=169)|apply c0|apply Jl (f:=168)|apply c1|apply Qk (f:=167)|apply c2|apply Qk (f:=53)|apply l1In_cv|exact Qa|apply Q3|exact viewE_pure Q6.out|apply view_lsV|(apply View.pure;exact Q4.out)|exact Jq.out|exact Qe.out|exact Q0 rfl|exact Ql|(apply Qg;exact Q0 rfl)|exact Q5 rfl rfl|assumption|exact rfl|fail)
  (apply E_U2 [(0,3),(1,4)] 1 1<;>repeat' (first|exact J4|(apply J3;exact rfl)|(apply Qx;(iterate 6 exact rfl))|(apply J5;(iterate 4 exact rfl);(· (first|assumption|exact rfl)))|exact Ren.sl _ _ _ _|(apply Ub;(· first|exact rfl|omega);(· first|exact rfl|assumption|(simp [Q1];done)|(simp [Q1];omega));(· first|exact rfl|assumption|(simp [Q1];done)|(simp [Q1];omega)))|exact Ren.ptr _ _ _|exact Qf|apply Q7|(apply Ren.pure;exact Q4.out)|apply Qm|apply Qv|exact Low.sl _ _ _ _ (by decide)|exact Low.ptr _ _ _ (by decide)|exact J0|apply Qq|(apply Low.pure;exact Q4.out)|apply U3|apply U2|exact Ji|(apply Jx;exact rfl;(· first|exact rfl|assumption|(simp [bA];done));exact Q6.out)|(apply Jh;exact rfl)|exact Jc|apply J1|(apply Uf.low;exact Q6.out)|apply Ju|exact Jv|(apply Yg;exact rfl)|exact Ud|apply Jz|apply lowX_cons|exact rfl))
theorem specMineHead_cr (x:Hd) (tries:Int) (h1:x.parent.length<=1048576) (h2:x.root.length<=1048576) (N:Nat):CR Tryz.prog 123 [hdA x,.int .i64 tries] [] N (Is (hdResB N (N + 1) (mnCode x tries) (mnHead x tries)) [(N,boxH true (mnHead x tries).parent),(N + 1,boxH true (mnHead x tries).root)] (N + 2)) :=
 CR.allN (specMineHead_cr0 x tries h1 h2) N (by first|exact Q4.out|exact Qe.out|assumption) (by repeat' (first|exact Ren.sl _ _ _ _|exact Ren.ptr _ _ _|exact Qf|apply Q7|(apply Ren.pure;(first|exact Q4.out|exact Qe.out|assumption))|apply Qm|apply Qv)) (by repeat' (first|exact Jn|(apply Ja;exact rfl;(· (exact Q6.out)))|(apply Jm;exact rfl)|exact Qf|apply Q7|exact Ren.sl _ _ _ _|exact Ren.ptr _ _ _|(apply Ren.pure;(first|exact Q4.out|exact Qe.out|assumption))|apply Qm))
end Go.Proofs.YtaolmfgpebncjaaGreat
