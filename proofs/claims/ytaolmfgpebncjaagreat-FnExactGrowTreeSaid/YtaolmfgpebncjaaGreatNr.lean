/- Growing a tree: the specification. -/
import Derived.Test.YtaolmfgpebncjaaGreatNp
import Derived.Test.YtaolmfgpebncjaaGreatGj
import Derived.Test.YtaolmfgpebncjaaGreatGk
set_option maxRecDepth 100000
set_option maxHeartbeats 3200000
set_option linter.unusedSimpArgs false
set_option linter.unusedVariables false
namespace Go.Proofs.YtaolmfgpebncjaaGreat
open Go.Av
attribute [local irreducible] T thenQ Uv Y0 Uz WX retV retR Gt Gts GtsP Qs CV CR Av.Pure
attribute [local irreducible] sha Y1 U1 Y8 Yh hdD zerosN rootL withN
theorem l5CopyLists_cr0 (rows:List (List UInt8)) (h:Y9 List.length rows<=1048576):CR Tryz.prog 125 [Y2 rows] [] 0 (Is (.sl (0 + 1) 0 rows.length rows.length) [(0,some ⟨bA rows.flatten,1,true,false⟩),(0 + 1,some ⟨Yb 0 0 (rows.map List.length),1,true,false⟩)] (0 + 2)):=by
 refine Us Qc Tryz.func125 (by kernel_rfl) rfl 22 rfl (by simp) [.tmp 2] rfl ?_
 intro w0 ok0 wr φ0
 have hml:(rows.map byA).length = rows.length:=by simp
 have hn:rows.length<=1048576:=by unfold Y9 at h;omega
 repeat' (first|refine Qh ?_|refine Q9 ?_|refine Q8 Qc ?_|refine Qi ?_|refine Qo ?_|apply Q2|(apply S_buildL Qc;(iterate 3 exact rfl))|(dsimp only;omega)|exact U4|exact Uc|exact Q0 rfl|exact rfl|fail)
 refine Js (α:=Nat) (λ j=>⟨[(0,Y2 rows),(3,.sl 0 0 j j),(4,.int .i64 j)],[(1,some ⟨bA (rows.take j).flatten,1,true,false⟩),(0,some ⟨Yb 1 0 ((rows.take j).map List.length),1,true,false⟩)],2⟩)
  (λ j=>rows.length - j) (λ j=>j<=rows.length) 0 (sub_up 1 (by repeat' (first|exact upE_nil|(apply upE_cons;exact rfl;exact Up.refl _)))) (by omega) ?_
 intro j hj
 by_cases hjl:j < rows.length
 ·have hc:decide ((j:Int) < ((rows.map byA).length:Int)) = true:=by simp only [decide_eq_true_eq];omega
  have g1:=Uy byA rows [] (k:=j) hjl
  have hw1:IntKind.wrap .i64 ((j:Int) + 1) = ((j + 1:Nat):Int):=by rw [wrap_i64 (by omega) (by omega)];omega
  have hmem:rows.getD j []∈rows:=by rw [List.getD_eq_getElem?_getD,List.getElem?_eq_getElem hjl];exact List.getElem_mem hjl
  have hwl:=listW_mem List.length rows hmem
  have htk:rows.take (j + 1) = rows.take j++[rows.getD j []]:=by rw [List.take_add_one,List.getD_eq_getElem?_getD,List.getElem?_eq_getElem hjl];rfl
  have hfl:bA (rows.take j).flatten++bA (rows.getD j []) = bA (rows.take (j + 1)).flatten:=by rw [htk];simp [bA]
  have hns:(rows.take j).map List.length++[(rows.getD j []).length] = (rows.take (j + 1)).map List.length:=by rw [htk];simp
  have hM:(bA (rows.take j).flatten).length = 0 + ((rows.take j).map List.length).sum:=by rw [Q1,List.length_flatten,Nat.zero_add]
  have hol:j = (Yb 1 0 ((rows.take j).map List.length)).length:=by rw [outsN_length,List.length_map,List.length_take];omega
  generalize rows.getD j [] = w at *
  have hbl:(bA w).length = w.length:=Q1 w
  repeat' (first|refine Qh ?_|refine Q9 ?_|refine U9 ?_|refine Q8 Qc ?_|refine Qi ?_|refine Qw ?_|refine Qo ?_|(apply Jf;exact rfl;(· (first|assumption|exact rfl)))|apply Qd|apply Q2|(apply Ue;exact rfl;exact Q0 rfl;exact rfl;(· (first|exact ⟨rfl,rfl⟩|exact ⟨rfl,trivial⟩|assumption)))|apply Jd|apply Y7|(apply Qp;exact rfl;exact Q0 rfl)|(apply Jk;exact rfl;exact rfl;exact Q0 rfl;exact Q0 rfl)|(apply M_appB;exact rfl;exact rfl;exact Q0 rfl)|(apply S_buildL Qc;(iterate 3 exact rfl))|(apply mlen;first|exact rfl|assumption|exact Nat.le_of_ble_eq_true rfl|omega|(simp [Q1];done)|(simp [Q1];omega))|(apply msz;first|assumption|exact Nat.le_of_ble_eq_true rfl|(dsimp only;simp only [List.length_append,List.length_map,List.length_cons,List.length_nil,Q1,List.length_take,List.length_drop,List.length_replicate] at *;omega)|(dsimp only;omega))|(apply mnorm;first|with_reducible exact app_nil0 _|exact app_norm _ _|exact rfl)|(apply mtake;first|assumption|exact Ux (by first|rfl|(simp;done))|exact rfl)|exact Src.ls rfl rfl|(apply src_sl;(iterate 3 exact rfl))|(dsimp only;omega)|exact U4|(apply Ug;exact Q0 rfl)|exact Uc|apply Uq|(intro hu;cases hu;done)|exact Q0 rfl|exact Q5 rfl rfl|assumption|(refine ⟨?_,?_⟩<;>omega)|omega|exact rfl|fail)
  exact U7 (j + 1) (Sub.trans (sub_cat (env:=[(0,Y2 rows),(3,.sl 5 0 (j + 1) (j + 1)),(4,.int .i64 (j + 1:Nat))])
   (bx':=[(5,some ⟨Yb 1 0 ((rows.take (j + 1)).map List.length),1,true,false⟩)]) 1 3 (Nat.zero_le _) (by decide) rfl rfl (catX_pure (Yi _)) (catX_pure (Yi _)) (by repeat' (first|exact catE_nil|(apply catE_cons;exact rfl)|(apply Cat.pure;(first|exact Q4.out|exact Qe.out|assumption))|(apply Cat.sl0;decide)|(apply Cat.ptr0;decide)|apply cat_agg|exact catL_nil|apply Jy)) (catB_cons (by decide) (by decide) rfl (by rw [<-hns];simp only [hbl,Nat.zero_add];exact outsN_catS hM) catB_nil) hfl rfl) (sub_names [(0,5),(1,1)] (k0:=0) rfl (by rfl) (by repeat' (first|exact pullE_nil|(apply Yl;exact rfl)|exact Ren.sl _ _ _ _|(apply Ub;(· first|exact rfl|omega);(· first|exact rfl|assumption|(simp [Q1];done)|(simp [Q1];omega));(· first|exact rfl|assumption|(simp [Q1];done)|(simp [Q1];omega)))|exact Ren.ptr _ _ _|(apply Ren.pure;(first|exact Q4.out|exact Qe.out|assumption))|exact Qf|apply Q7|apply Qm|apply Qv)) (by repeat' (first|exact Ji|(apply Yj;(· first|exact rfl|exact congrArg (λ l=>some (Box.mk l _ _ _)) hset);(· (exact Q6.out)))|(apply Jh;exact rfl)|exact Qf|apply Q7|exact Ren.sl _ _ _ _|exact Ren.ptr _ _ _|(apply Ren.pure;(first|exact Q4.out|exact Qe.out|assumption))|apply Qm|(apply Yg;exact rfl)|exact U6 _ _ _ _|apply renEL_app|apply renEL_pure)) (by repeat' (first|exact lowE_nil|apply Ye|exact Low.sl _ _ _ _ (by decide)|exact Low.ptr _ _ _ (by decide)|(apply Low.pure;(first|exact Q4.out|exact Qe.out|assumption))|exact J0|apply Qq|apply U3|apply U2)) (by repeat' (first|exact Jc|apply J1|(apply Uf.low;(exact Q6.out))|apply Ju|exact Jv|exact J0|apply Qq|exact Low.sl _ _ _ _ (by decide)|exact Low.ptr _ _ _ (by decide)|(apply Low.pure;(first|exact Q4.out|exact Qe.out|assumption))|exact outsN_low _ _ _ (by decide)|apply lowX_app)))) (by omega) (by omega)
 ·have hc:decide ((j:Int) < ((rows.map byA).length:Int)) = false:=by simp only [decide_eq_false_iff_not];omega
  obtain rfl:j = rows.length:=by omega
  rw [List.take_length]
  repeat' (first|refine Qh ?_|refine Q9 ?_|refine Ua ?_|refine Jt ?_|refine Jo ?_|refine Q8 Qc ?_|refine Qi ?_|refine Qu ?_|refine Un ?_|(apply J9;exact rfl;(· (first|assumption|exact rfl)))|apply Qd|apply Q2|apply Jd|(apply Qp;exact rfl;exact Q0 rfl)|exact Q0 rfl|exact rfl|fail)
  (apply E_U0 [(0,1),(1,0)]<;>repeat' (first|exact J4|(apply J3;exact rfl)|(apply Qx;(iterate 6 exact rfl))|(apply J5;(iterate 4 exact rfl);(· (first|assumption|exact rfl)))|exact Ren.sl _ _ _ _|(apply Ub;(· first|exact rfl|omega);(· first|exact rfl|assumption|(simp [Q1];done)|(simp [Q1];omega));(· first|exact rfl|assumption|(simp [Q1];done)|(simp [Q1];omega)))|exact Ren.ptr _ _ _|exact Qf|apply Q7|(apply Ren.pure;exact Q4.out)|apply Qm|apply Qv|exact Low.sl _ _ _ _ (by decide)|exact Low.ptr _ _ _ (by decide)|exact J0|apply Qq|(apply Low.pure;exact Q4.out)|apply U3|apply U2|exact Ji|(apply Jx;exact rfl;(· first|exact rfl|assumption|(simp [bA];done));exact Q6.out)|(apply Jh;exact rfl)|exact Jc|apply J1|(apply Uf.low;exact Q6.out)|apply Ju|exact Jv|(apply Yg;exact rfl)|exact Ud|apply Jz|apply lowX_cons|exact U6 _ _ _ _|exact outsN_low _ _ _ (by decide)|exact rfl))
theorem l5CopyLists_cr (rows:List (List UInt8)) (h:Y9 List.length rows<=1048576) (N:Nat):CR Tryz.prog 125 [Y2 rows] [] N (Is (.sl (N + 1) 0 rows.length rows.length) [(N,some ⟨bA rows.flatten,1,true,false⟩),(N + 1,some ⟨Yb N 0 (rows.map List.length),1,true,false⟩)] (N + 2)) :=
 CR.allN (l5CopyLists_cr0 rows h) N (by first|exact Q4.out|exact Qe.out|assumption) (by repeat' (first|exact Ren.sl _ _ _ _|exact Ren.ptr _ _ _|exact Qf|apply Q7|(apply Ren.pure;(first|exact Q4.out|exact Qe.out|assumption))|apply Qm|apply Qv)) (by repeat' (first|exact Jn|(apply Ja;exact rfl;(· (exact Q6.out)))|(apply Jm;exact rfl)|exact Qf|apply Q7|exact Ren.sl _ _ _ _|exact Ren.ptr _ _ _|(apply Ren.pure;(first|exact Q4.out|exact Qe.out|assumption))|apply Qm|(apply Um;exact rfl)|exact U6 _ _ _ _))
theorem l5CopyLists_cv (rows:List (List UInt8)) (h:Y9 List.length rows<=1048576):CV Tryz.prog 125 [Y2 rows] (· = Y2 rows) :=
 (l5CopyLists_cr rows h 0).toCV λ r bs n ⟨e1,e2,e3⟩=>by
  subst e1 e2
  exact view_rowsR rfl rfl ⟨rfl⟩
theorem l5Grow_cv (tr:List Blk) (n:Nat) (time:Int) (ev:List (List UInt8)) (tries:Int) (hl:tr.length<=1048576) (hv:Y9 List.length ev<=1048576)
  (g:Y1 tr = 0) (hn:n < tr.length) (b3:fewB ev = true) (a4:((J2 tr).getD n Hd0).time < time/\time<=1099511627776) (a5:0<=tries/\tries<=5000) :
  CV Tryz.prog 67 [blkAS tr,.int .i64 (n:Int),.int .i64 time,Y2 ev,.int .i64 tries] (· = blkResA (if ¬ 0<=Y8 (U1 tr n time ev) tries then 4 else if 0<=Yh ((J2 tr).map hdD) (hdD (withN (U1 tr n time ev) (Y8 (U1 tr n time ev) tries))) then 7 else 0)
   (if 0<=Y8 (U1 tr n time ev) tries/\¬ 0<=Yh ((J2 tr).map hdD) (hdD (withN (U1 tr n time ev) (Y8 (U1 tr n time ev) tries))) then ⟨withN (U1 tr n time ev) (Y8 (U1 tr n time ev) tries),ev⟩ else Blk0)):=by
 refine J7 Qc Tryz.func67 (by kernel_rfl) rfl 63 rfl (by simp) [.cell 10 43] rfl ?_
 intro w0 ok0
 obtain ⟨g1,g2,_,hJ⟩:=tree_zero g
 have hhl:=headsL_length tr
 have hps:∀ y∈J2 tr,y.parent.length<=1000000:=λ y hy=>by have:=(hd_zero (hJ.1 y hy)).1;omega
 have c0:=l5Heads_cv tr hl
 rw [digOrs hJ.1] at c0
 have c1:=l5Chain_cv (J2 tr) n hJ (by omega) (by omega) hps
 have hcl:0 < (chainL (J2 tr) n).length:=by rw [chainL_length];exact wayD_pos _ _
 have hcl2:(chainL (J2 tr) n).length<=1000000:=by rw [chainL_length];have:=wayD_le (J2 tr) (i:=n) (by omega);omega
 have c2:=l5Zeros_cv (chainL (J2 tr) n) hcl hcl2 (chain_ok hJ (by omega))
 have hfw:=few_len b3
 have c3:(CV Tryz.prog 115 [Y2 ev] (· = sl1 (bA (rootL ev)))):=l3Root_cv _ ev rfl (by omega) (λ w hw=>by have:=hfw.2 w hw;omega)
 have hget:=Uy hdA (J2 tr) Hd0 (k:=n) (by omega)
 have hget2:=Uy byA ((J2 tr).map hdD) [] (k:=n) (by rw [List.length_map];omega)
 have hgd2:((J2 tr).map hdD).getD n [] = hdD ((J2 tr).getD n Hd0):=by
  rw [List.getD_eq_getElem?_getD,List.getElem?_map,List.getD_eq_getElem?_getD,List.getElem?_eq_getElem (by omega)];rfl
 rw [hgd2] at hget2
 have hin:(0:Int)<=(n:Int)/\(n:Int) < (((J2 tr).map hdA).length:Int):=by rw [List.length_map];omega
 have hin2:(0:Int)<=(n:Int)/\(n:Int) < ((((J2 tr).map hdD).map byA).length:Int):=by rw [List.length_map,List.length_map];omega
 have hm:(J2 tr).getD n Hd0∈J2 tr:=getD_mem _ Hd0 (by omega)
 have hx0:=hJ.1 _ hm
 obtain ⟨_,k1,k2,_,_⟩:=hd_zero hx0
 have hgf:=gw_fault (tr:=tr) (p:=n) (time:=time) (ev:=ev) g hn a4
 have hgw:U1 tr n time ev = ⟨hdD ((J2 tr).getD n Hd0),((J2 tr).getD n Hd0).height + 1,time,zerosN (chainL (J2 tr) n),rootL ev,0⟩:=by unfold U1;rfl
 have hp1:=(hd_zero hgf).1
 have c4:=specMineHead_cv (U1 tr n time ev) tries (by omega) (by omega)
 have hmr:=mineH_range (U1 tr n time ev) a5.1
 by_cases a6:0<=Y8 (U1 tr n time ev) tries
 case neg =>
  obtain ⟨e1,e2⟩:=mn_none hgf a5 a6
  rw [e1,e2] at c4
  rw [if_pos a6,if_neg (λ k=>a6 k.1)]
  rw [hgw] at c4
  generalize (J2 tr).getD n Hd0 = x at *
  have w2:IntKind.wrap .i64 (x.height + 1) = x.height + 1:=wrap_i64 (by omega) (by omega)
  generalize zerosN (chainL (J2 tr) n) = zz at *
  generalize rootL ev = rr at *
  generalize hdD x = dd at *
  have d1:(!decide ((4:Int) = 0)) = true:=rfl
  repeat' (first|refine Qh ?_|refine Q9 ?_|refine J8 ?_|refine Q8 Qc ?_|(apply T_drawQ (id:=3) 17 [16] Qc Uw;(iterate 3 exact rfl);(· kernel_rfl);(· kernel_rfl);exact Nat.le_of_ble_eq_true rfl)|refine Qi ?_|refine Qu ?_|(apply E_X<;>repeat' (first|exact J4|(apply J3;exact rfl)|(apply Qx;(iterate 6 exact rfl))|(apply J5;(iterate 4 exact rfl);(· (first|assumption|exact rfl)))|exact Qa|apply Q3|apply Jb|(apply Uu;exact rfl;(· first|exact rfl|assumption|(simp [Q1];done)|(simp [Q1];omega)|omega);exact Q6.out)|(apply U8;exact Q6.out)|apply Uh|apply Ul|(apply View.ofEq;exact Q4.out)|exact rfl))|(apply Jf;exact rfl;(· (first|assumption|exact rfl)))|apply Qd|apply Q2|(apply Jj;exact rfl;exact Q0 rfl;(iterate 3 exact rfl);(· (first|exact ⟨rfl,rfl⟩|exact ⟨rfl,trivial⟩|assumption)))|(apply Yc;exact rfl;exact Q0 rfl;(iterate 6 exact rfl))|(apply Ue;exact rfl;exact Q0 rfl;exact rfl;(· (first|exact ⟨rfl,rfl⟩|exact ⟨rfl,trivial⟩|assumption)))|(apply J6;(iterate 4 exact rfl);exact Q0 rfl)|(apply S_fieldV;(iterate 4 exact rfl);exact Q0 rfl)|(apply Y4;exact Q0 rfl;exact Q0 rfl)|apply Y7|apply S_extract|apply U0|(apply Jg;exact rfl;exact Q0 rfl;(iterate 4 exact rfl))|(apply S_build;(iterate 3 exact rfl);(· (repeat' (first|exact gtsP_nil|exact Q0 rfl|apply gtsP_cons)));(· (repeat' (first|exact BuildR.nil _|(apply BuildR.cons;(iterate 4 exact rfl);(· (first|nofun|assumption));(· (repeat' constructor)))))))|(apply Jk;exact rfl;exact rfl;exact Q0 rfl;exact Q0 rfl)|(apply L_alloc Qc;exact rfl;exact rfl;(· (first|exact Q5 rfl rfl|assumption));exact rfl;exact rfl)|apply Jl (f:=54)|apply c0|apply Jl (f:=121)|apply c1|apply Qk (f:=122)|apply c2|apply Jl (f:=115)|apply c3|apply Jl (f:=123)|apply c4|exact Qa|apply Q3|(apply View.pure;exact Q4.out)|exact Jq.out|exact Qe.out|exact Q0 rfl|exact Ql|(apply Qg;exact Q0 rfl)|exact Q5 rfl rfl|assumption|exact rfl|fail)
 obtain ⟨e1,e2⟩:=mn_ok hgf a5 a6
 rw [e1,e2] at c4
 rw [if_neg (λ k=>k a6)]
 have hwf:=withN_fault hgf ⟨a6,by omega⟩
 have c5:=l5Digest_cv (withN (U1 tr n time ev) (Y8 (U1 tr n time ev) tries)) hwf
 have hds:∀ w∈(J2 tr).map hdD,w.length<=1000000:=λ w hw=>by
  obtain ⟨y,_,rfl⟩:=List.mem_map.1 hw
  rw [hdD_length];decide
 have c6:=l5Place_cv ((J2 tr).map hdD) (hdD (withN (U1 tr n time ev) (Y8 (U1 tr n time ev) tries))) (by rw [List.length_map];omega) hds (by rw [hdD_length];decide)
 have d0:(!decide ((0:Int) = 0)) = false:=rfl
 by_cases a7:0<=Yh ((J2 tr).map hdD) (hdD (withN (U1 tr n time ev) (Y8 (U1 tr n time ev) tries)))
 ·rw [if_pos a7,if_neg (λ k=>k.2 a7)]
  have d7:=decide_eq_true a7
  generalize Yh _ _ = pl at *
  generalize withN (U1 tr n time ev) (Y8 (U1 tr n time ev) tries) = y at *
  rw [hgw] at c4
  generalize (J2 tr).getD n Hd0 = x at *
  have w2:IntKind.wrap .i64 (x.height + 1) = x.height + 1:=wrap_i64 (by omega) (by omega)
  generalize zerosN (chainL (J2 tr) n) = zz at *
  generalize rootL ev = rr at *
  generalize hdD x = dd at *
  repeat' (first|refine Qh ?_|refine Q9 ?_|refine J8 ?_|refine Q8 Qc ?_|(apply T_drawQ (id:=3) 17 [16] Qc Uw;(iterate 3 exact rfl);(· kernel_rfl);(· kernel_rfl);exact Nat.le_of_ble_eq_true rfl)|refine Qi ?_|refine Qw ?_|refine Qu ?_|(apply E_X<;>repeat' (first|exact J4|(apply J3;exact rfl)|(apply Qx;(iterate 6 exact rfl))|(apply J5;(iterate 4 exact rfl);(· (first|assumption|exact rfl)))|exact Qa|apply Q3|apply Jb|(apply Uu;exact rfl;(· first|exact rfl|assumption|(simp [Q1];done)|(simp [Q1];omega)|omega);exact Q6.out)|(apply U8;exact Q6.out)|apply Uh|apply Ul|(apply View.ofEq;exact Q4.out)|exact rfl))|(apply Jf;exact rfl;(· (first|assumption|exact rfl)))|(apply J9;exact rfl;(· (first|assumption|exact rfl)))|apply Qd|apply Q2|(apply Jj;exact rfl;exact Q0 rfl;(iterate 3 exact rfl);(· (first|exact ⟨rfl,rfl⟩|exact ⟨rfl,trivial⟩|assumption)))|(apply Yc;exact rfl;exact Q0 rfl;(iterate 6 exact rfl))|(apply M_loadA;exact rfl;exact rfl;exact Q0 rfl;exact rfl;exact rfl;(· (repeat' constructor)))|(apply Ue;exact rfl;exact Q0 rfl;exact rfl;(· (first|exact ⟨rfl,rfl⟩|exact ⟨rfl,trivial⟩|assumption)))|(apply J6;(iterate 4 exact rfl);exact Q0 rfl)|(apply S_fieldV;(iterate 4 exact rfl);exact Q0 rfl)|apply S_geq|(apply Y4;exact Q0 rfl;exact Q0 rfl)|apply Y7|apply S_extract|apply U0|(apply Jg;exact rfl;exact Q0 rfl;(iterate 4 exact rfl))|(apply S_build;(iterate 3 exact rfl);(· (repeat' (first|exact gtsP_nil|exact Q0 rfl|apply gtsP_cons)));(· (repeat' (first|exact BuildR.nil _|(apply BuildR.cons;(iterate 4 exact rfl);(· (first|nofun|assumption));(· (repeat' constructor)))))))|(apply Jk;exact rfl;exact rfl;exact Q0 rfl;exact Q0 rfl)|(apply L_alloc Qc;exact rfl;exact rfl;(· (first|exact Q5 rfl rfl|assumption));exact rfl;exact rfl)|apply Jl (f:=54)|apply c0|apply Jl (f:=121)|apply c1|apply Qk (f:=122)|apply c2|apply Jl (f:=115)|apply c3|apply Jl (f:=123)|apply c4|apply Jl (f:=124)|apply c5|apply Qk (f:=111)|apply c6|exact Qa|apply Q3|(apply View.pure;exact Q4.out)|exact Jq.out|exact Qe.out|exact Q0 rfl|exact Ql|(apply Qg;exact Q0 rfl)|exact Q5 rfl rfl|assumption|exact rfl|fail)
 ·rw [if_neg a7,if_pos ⟨a6,a7⟩]
  have d7:=decide_eq_false a7
  have c7:=l5CopyLists_cv ev hv
  generalize Yh _ _ = pl at *
  generalize withN (U1 tr n time ev) (Y8 (U1 tr n time ev) tries) = y at *
  rw [hgw] at c4
  generalize (J2 tr).getD n Hd0 = x at *
  have w2:IntKind.wrap .i64 (x.height + 1) = x.height + 1:=wrap_i64 (by omega) (by omega)
  generalize zerosN (chainL (J2 tr) n) = zz at *
  generalize rootL ev = rr at *
  generalize hdD x = dd at *
  repeat' (first|refine Qh ?_|refine Q9 ?_|refine Q8 Qc ?_|(apply T_drawQ (id:=3) 17 [16] Qc Uw;(iterate 3 exact rfl);(· kernel_rfl);(· kernel_rfl);exact Nat.le_of_ble_eq_true rfl)|(apply T_drawM (id:=9) 6 Qc Uw;exact rfl;exact rfl;(· kernel_rfl);exact Nat.le_of_ble_eq_true rfl)|refine Qi ?_|refine Qw ?_|refine Qu ?_|(apply E_X<;>repeat' (first|exact J4|(apply J3;exact rfl)|(apply Qx;(iterate 6 exact rfl))|(apply J5;(iterate 4 exact rfl);(· (first|assumption|exact rfl)))|exact Qa|apply Q3|apply Jb|(apply Uu;exact rfl;(· first|exact rfl|assumption|(simp [Q1];done)|(simp [Q1];omega)|omega);exact Q6.out)|(apply U8;exact Q6.out)|apply Uh|apply Ul|(apply View.ofEq;exact Q4.out)|exact rfl))|(apply J9;exact rfl;(· (first|assumption|exact rfl)))|apply Qd|apply Q2|(apply Jj;exact rfl;exact Q0 rfl;(iterate 3 exact rfl);(· (first|exact ⟨rfl,rfl⟩|exact ⟨rfl,trivial⟩|assumption)))|(apply Yc;exact rfl;exact Q0 rfl;(iterate 6 exact rfl))|(apply M_loadA;exact rfl;exact rfl;exact Q0 rfl;exact rfl;exact rfl;(· (repeat' constructor)))|(apply Ue;exact rfl;exact Q0 rfl;exact rfl;(· (first|exact ⟨rfl,rfl⟩|exact ⟨rfl,trivial⟩|assumption)))|(apply J6;(iterate 4 exact rfl);exact Q0 rfl)|(apply S_fieldV;(iterate 4 exact rfl);exact Q0 rfl)|apply S_geq|(apply Y4;exact Q0 rfl;exact Q0 rfl)|apply Y7|apply S_extract|apply U0|(apply Jg;exact rfl;exact Q0 rfl;(iterate 4 exact rfl))|(apply S_build;(iterate 3 exact rfl);(· (repeat' (first|exact gtsP_nil|exact Q0 rfl|apply gtsP_cons)));(· (repeat' (first|exact BuildR.nil _|(apply BuildR.cons;(iterate 4 exact rfl);(· (first|nofun|assumption));(· (repeat' constructor)))))))|(apply Jk;exact rfl;exact rfl;exact Q0 rfl;exact Q0 rfl)|(apply L_alloc Qc;exact rfl;exact rfl;(· (first|exact Q5 rfl rfl|assumption));exact rfl;exact rfl)|apply Jl (f:=54)|apply c0|apply Jl (f:=121)|apply c1|apply Qk (f:=122)|apply c2|apply Jl (f:=115)|apply c3|apply Jl (f:=123)|apply c4|apply Jl (f:=124)|apply c5|apply Qk (f:=111)|apply c6|apply Jl (f:=125)|apply c7|exact Qa|apply Q3|(apply View.pure;exact Q4.out)|exact Jq.out|exact Qe.out|exact Q0 rfl|exact Ql|(apply Qg;exact Q0 rfl)|exact Q5 rfl rfl|assumption|exact rfl|fail)
end Go.Proofs.YtaolmfgpebncjaaGreat
