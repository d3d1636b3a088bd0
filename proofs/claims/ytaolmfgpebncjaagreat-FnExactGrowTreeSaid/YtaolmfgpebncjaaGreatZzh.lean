/- Trees of blocks: their heads, and few events. -/
import Derived.Test.YtaolmfgpebncjaaGreatRd
set_option maxRecDepth 100000
set_option maxHeartbeats 3200000
set_option linter.unusedSimpArgs false
set_option linter.unusedVariables false
namespace Go.Proofs.YtaolmfgpebncjaaGreat
open Go.Av
attribute [local irreducible] T thenQ Uv Y0 Uz WX retV retR Gt Gts GtsP Qs CV CR Av.Pure
attribute [local irreducible] sha zerosL lz8 hdD Jw zerosN hardF firstB wayD chainL bestUp wtL joinF
def fewB (ev:List (List UInt8)):Bool:=decide (ev.length<=8) && !(ev.any λ e=>decide (60 < e.length))
theorem few_len {ev:List (List UInt8)} (h:fewB ev = true):ev.length<=8/\∀ w∈ev,w.length<=60:=by
 unfold fewB at h
 simp only [Bool.and_eq_true,decide_eq_true_eq,Bool.not_eq_true',List.any_eq_false] at h
 exact ⟨h.1,λ w hw=>by have:=h.2 w hw;omega⟩
theorem events1_cv (e:List UInt8):CV Tryz.prog 127 [byA e] (· = .bool (decide (60 < e.length))):=by
 refine J7 Qc Tryz.func127 (by kernel_rfl) rfl 6 rfl (by simp) [.tmp 2] rfl ?_
 intro w0 ok0
 have hl:=Q1 e
 have q:decide (60 < e.length) = decide ((60:Int) < ((bA e).length:Int)):=by
  by_cases h:60 < e.length
  ·rw [decide_eq_true h,decide_eq_true (by omega)]
  ·rw [decide_eq_false h,decide_eq_false (by omega)]
 rw [q]
 repeat' (first|refine Qh ?_|refine Q9 ?_|refine Q8 Qc ?_|refine Qi ?_|refine Qu ?_|(apply Jr;exact rfl;(· (repeat' (first|exact Qb _ _|exact Qj _|exact Qn _);done)))|apply Qd|apply Q2|apply S_gtr|(apply Qp;exact rfl;exact Q0 rfl)|exact Q0 rfl|exact rfl|fail)
theorem areEvents_cv (ev:List (List UInt8)) (hl:ev.length<=1048576):CV Tryz.prog 68 [Y2 ev] (· = .bool (fewB ev)):=by
 refine J7 Qc Tryz.func68 (by kernel_rfl) rfl 11 rfl (by simp) [.tmp 2] rfl ?_
 intro w0 ok0
 have hml:(ev.map byA).length = ev.length:=by simp
 have c0:=containsRows_cv 127 [] ev (λ e=>decide (60 < e.length)) inferInstance Qa (by omega) (λ w _=>events1_cv w)
 unfold fewB
 by_cases g:ev.length<=8
 ·have d0:decide (((ev.map byA).length:Int)<=8) = true:=decide_eq_true (by omega)
  rw [decide_eq_true g,Bool.true_and]
  repeat' (first|refine Qh ?_|refine Q9 ?_|refine Q8 Qc ?_|refine Qi ?_|refine Qu ?_|(apply Jr;exact rfl;(· (repeat' (first|exact Qb _ _|exact Qj _|exact Qn _);done)))|(apply S_gt;exact rfl;exact rfl;(· (first|assumption|exact rfl)))|apply Qd|apply Q2|(apply S_pickT;exact Q0 rfl;(· (first|assumption|exact rfl)))|apply S_leq|apply S_not|(apply Qp;exact rfl;exact Q0 rfl)|apply Qk (f:=126)|apply c0|exact Qa|apply Q3|(apply View.pure;exact Q4.out)|exact Jq.out|exact Q0 rfl|exact Ql|(apply Qg;exact Q0 rfl)|exact rfl|fail)
 ·have d0:decide (((ev.map byA).length:Int)<=8) = false:=decide_eq_false (by omega)
  rw [decide_eq_false g,Bool.false_and]
  repeat' (first|refine Qh ?_|refine Q9 ?_|refine Q8 Qc ?_|refine Qi ?_|refine Qu ?_|(apply Jr;exact rfl;(· (repeat' (first|exact Qb _ _|exact Qj _|exact Qn _);done)))|(apply S_gtF';(iterate 3 exact rfl);(· (first|assumption|exact rfl)))|apply Qd|apply Q2|(apply Uj;exact Q0 rfl;(· (first|assumption|exact rfl)))|apply S_leq|(apply Qp;exact rfl;exact Q0 rfl)|exact Q0 rfl|exact rfl|fail)
theorem l5Few_cv (ev:List (List UInt8)) (hl:ev.length<=1048576):CV Tryz.prog 66 [Y2 ev] (· = .bool (fewB ev)):=by
 refine J7 Qc Tryz.func66 (by kernel_rfl) rfl 19 rfl (by simp) [.tmp 2] rfl ?_
 intro w0 ok0
 have hml:(ev.map byA).length = ev.length:=by simp
 unfold fewB
 by_cases g:ev.length<=8
 case neg =>
  have d0:decide ((8:Int) < ((ev.map byA).length:Int)) = true:=decide_eq_true (by omega)
  rw [decide_eq_false g,Bool.false_and]
  repeat' (first|refine Qh ?_|refine Q9 ?_|refine J8 ?_|refine Q8 Qc ?_|refine Qi ?_|refine Qu ?_|(apply Jr;exact rfl;(· (repeat' (first|exact Qb _ _|exact Qj _|exact Qn _);done)))|(apply Jf;exact rfl;(· (first|assumption|exact rfl)))|apply Qd|apply Q2|apply S_gtr|(apply Qp;exact rfl;exact Q0 rfl)|exact Q0 rfl|exact rfl|fail)
 have d0:decide ((8:Int) < ((ev.map byA).length:Int)) = false:=decide_eq_false (by omega)
 rw [decide_eq_true g,Bool.true_and]
 repeat' (first|refine Qh ?_|refine Q9 ?_|refine Q8 Qc ?_|refine Qi ?_|refine Qw ?_|refine Qo ?_|(apply J9;exact rfl;(· (first|assumption|exact rfl)))|apply Qd|apply Q2|apply S_gtr|(apply Qp;exact rfl;exact Q0 rfl)|exact Q0 rfl|exact rfl|fail)
 refine Js (α:=Nat) (λ k=>⟨[(0,Y2 ev),(3,.int .i64 k)],[],0⟩)
  (λ k=>ev.length - k) (λ k=>k<=ev.length/\(ev.any λ e=>decide (60 < e.length)) = (ev.drop k).any λ e=>decide (60 < e.length)) 0 ((Jp (by repeat' (first|exact Qy|refine Qr rfl ?_)) (by repeat' (first|exact Qz|refine Qt (by first|rfl|exact congrArg (λ l=>some (Box.mk l _ _ _)) hset) ?_)) (Nat.le_refl _))).sub ⟨by omega,rfl⟩ ?_
 rintro k ⟨hk,hI⟩
 by_cases hkl:k < ev.length
 ·have d1:decide ((k:Int) < ((ev.map byA).length:Int)) = true:=decide_eq_true (by omega)
  have hget:=Uy byA ev [] (k:=k) (by omega)
  rw [any_step _ ev [] hkl] at hI
  generalize ev.getD k [] = e at *
  have hel:=Q1 e
  have hw:IntKind.wrap .i64 ((k:Int) + 1) = ((k + 1:Nat):Int):=by rw [wrap_i64 (by omega) (by omega)];omega
  by_cases q:60 < e.length
  ·have d2:decide ((60:Int) < ((bA e).length:Int)) = true:=decide_eq_true (by omega)
   rw [decide_eq_true q,Bool.true_or] at hI
   rw [hI,Bool.not_true]
   repeat' (first|refine Qh ?_|refine Q9 ?_|refine J8 ?_|refine Ui ?_|refine Ya ?_|refine Q8 Qc ?_|refine Qi ?_|refine Qw ?_|refine Qu ?_|refine Qo ?_|(apply Jr;exact rfl;(· (repeat' (first|exact Qb _ _|exact Qj _|exact Qn _);done)))|(apply Jf;exact rfl;(· (first|assumption|exact rfl)))|apply Qd|apply Q2|(apply Ue;exact rfl;exact Q0 rfl;exact rfl;(· (first|exact ⟨rfl,rfl⟩|exact ⟨rfl,trivial⟩|assumption)))|apply Jd|apply S_gtr|(apply Qp;exact rfl;exact Q0 rfl)|(apply Jk;exact rfl;exact rfl;exact Q0 rfl;exact Q0 rfl)|exact Q0 rfl|assumption|(refine ⟨?_,?_⟩<;>omega)|exact rfl|fail)
  ·have d2:decide ((60:Int) < ((bA e).length:Int)) = false:=decide_eq_false (by omega)
   rw [decide_eq_false q,Bool.false_or] at hI
   repeat' (first|refine Qh ?_|refine Q9 ?_|refine U9 ?_|refine Q8 Qc ?_|refine Qi ?_|refine Qw ?_|refine Qo ?_|(apply Jf;exact rfl;(· (first|assumption|exact rfl)))|(apply J9;exact rfl;(· (first|assumption|exact rfl)))|apply Qd|apply Q2|(apply Ue;exact rfl;exact Q0 rfl;exact rfl;(· (first|exact ⟨rfl,rfl⟩|exact ⟨rfl,trivial⟩|assumption)))|apply Jd|apply S_gtr|apply Y7|(apply Qp;exact rfl;exact Q0 rfl)|(apply Jk;exact rfl;exact rfl;exact Q0 rfl;exact Q0 rfl)|exact Q0 rfl|assumption|(refine ⟨?_,?_⟩<;>omega)|exact rfl|fail)
   exact U7 (k + 1) ((Jp (by repeat' (first|exact Qy|refine Qr rfl ?_)) (by repeat' (first|exact Qz|refine Qt (by first|rfl|exact congrArg (λ l=>some (Box.mk l _ _ _)) hset) ?_)) (Nat.le_refl _))).sub ⟨by omega,hI⟩ (by omega)
 ·have d1:decide ((k:Int) < ((ev.map byA).length:Int)) = false:=decide_eq_false (by omega)
  obtain rfl:k = ev.length:=by omega
  rw [List.drop_length,List.any_nil] at hI
  rw [hI,Bool.not_false]
  repeat' (first|refine Qh ?_|refine Q9 ?_|refine Ua ?_|refine Jt ?_|refine Jo ?_|refine Q8 Qc ?_|refine Qi ?_|refine Qu ?_|refine Un ?_|(apply Jr;exact rfl;(· (repeat' (first|exact Qb _ _|exact Qj _|exact Qn _);done)))|(apply J9;exact rfl;(· (first|assumption|exact rfl)))|apply Qd|apply Q2|apply Jd|(apply Qp;exact rfl;exact Q0 rfl)|exact Q0 rfl|exact rfl|fail)
def J2 (tr:List Blk):List Hd:=tr.map Blk.head
theorem headsL_length (tr:List Blk):(J2 tr).length = tr.length:=by simp [J2]
theorem headsL_getD (tr:List Blk) (k:Nat) (h:k < tr.length):(J2 tr).getD k Hd0 = (tr.getD k Blk0).head:=by
 simp [J2,List.getD_eq_getElem?_getD,List.getElem?_map,List.getElem?_eq_getElem h]
theorem take_snoc {α:Type} (l:List α) (d:α) {k:Nat} (h:k < l.length):l.take (k + 1) = l.take k++[l.getD k d]:=by
 rw [List.take_add_one,List.getElem?_eq_getElem h,List.getD_eq_getElem?_getD,List.getElem?_eq_getElem h];rfl
theorem headsOf_cr0 (tr:List Blk) (hl:tr.length<=1048576):CR Tryz.prog 59 [blkAS tr] [] 0 (Is (.sl 0 0 tr.length tr.length) [(0,some ⟨(J2 tr).map hdA,6,true,false⟩)] (0 + 1)):=by
 refine Us Qc Tryz.func59 (by kernel_rfl) rfl 20 rfl (by simp) [.tmp 2] rfl ?_
 intro w0 ok0 wr φ0
 have hml:(tr.map blkA).length = tr.length:=by simp
 have hH:J2 tr = tr.map Blk.head:=rfl
 rw [hH]
 repeat' (first|refine Qh ?_|refine Q9 ?_|refine Q8 Qc ?_|refine Qi ?_|refine Qo ?_|apply Qd|apply Q2|(apply Qp;exact rfl;exact Q0 rfl)|(apply S_buildL Qc;(iterate 3 exact rfl))|(dsimp only;omega)|exact U4|exact Uc|exact Q0 rfl|exact rfl|fail)
 refine Js (α:=Nat) (λ k=>⟨[(3,.sl 0 0 k k),(7,blkAS tr),(8,.int .i64 (tr.map blkA).length),(9,.int .i64 k)],[(0,some ⟨((tr.take k).map Blk.head).map hdA,6,true,false⟩)],1⟩)
  (λ k=>tr.length - k) (λ k=>k<=tr.length) 0 ((Jp (by repeat' (first|exact Qy|refine Qr rfl ?_)) (by repeat' (first|exact Qz|refine Qt (by first|rfl|exact congrArg (λ l=>some (Box.mk l _ _ _)) hset) ?_)) (Nat.le_refl _))).sub (by omega) ?_
 intro k hk
 have hbl:(((tr.take k).map Blk.head).map hdA).length = k:=by rw [List.length_map,List.length_map,List.length_take];omega
 by_cases hkl:k < tr.length
 ·have d1:decide ((k:Int) < ((tr.map blkA).length:Int)) = true:=decide_eq_true (by omega)
  have hget:=Uy blkA tr Blk0 (k:=k) (by omega)
  have e:=take_snoc tr Blk0 hkl
  generalize tr.getD k Blk0 = b at *
  have hset:((tr.take k).map Blk.head).map hdA++[hdA b.head] = ((tr.take (k + 1)).map Blk.head).map hdA:=by rw [e];simp
  have hw:IntKind.wrap .i64 ((k:Int) + 1) = ((k + 1:Nat):Int):=by rw [wrap_i64 (by omega) (by omega)];omega
  repeat' (first|refine Qh ?_|refine Q9 ?_|refine U9 ?_|refine Q8 Qc ?_|refine Qi ?_|refine Qw ?_|refine Qo ?_|(apply Jf;exact rfl;(· (first|assumption|exact rfl)))|apply Qd|apply Q2|(apply M_loadA;exact rfl;exact rfl;exact Q0 rfl;exact rfl;exact rfl;(· (repeat' constructor)))|(apply Uo;exact rfl;exact Q0 rfl;exact rfl;exact rfl)|(apply J6;(iterate 4 exact rfl);exact Q0 rfl)|apply Jd|apply Y7|apply U0|(apply Jg;exact rfl;exact Q0 rfl;(iterate 4 exact rfl))|(apply Jk;exact rfl;exact rfl;exact Q0 rfl;exact Q0 rfl)|(apply M_appB;exact rfl;exact rfl;exact Q0 rfl)|(apply S_buildV Qc;exact rfl;exact rfl)|(apply mlen;first|exact rfl|assumption|exact Nat.le_of_ble_eq_true rfl|omega|(simp [Q1];done)|(simp [Q1];omega))|(apply msz;first|assumption|exact Nat.le_of_ble_eq_true rfl|(dsimp only;simp only [List.length_append,List.length_map,List.length_cons,List.length_nil,Q1,List.length_take,List.length_drop,List.length_replicate] at *;omega)|(dsimp only;omega))|(apply mnorm;first|with_reducible exact app_nil0 _|exact app_norm _ _|exact rfl)|exact Src.ls rfl rfl|(dsimp only;omega)|exact U4|(apply Ug;exact Q0 rfl)|exact Uc|apply Uq|(intro hu;cases hu;done)|exact Q0 rfl|exact Q5 rfl rfl|assumption|(refine ⟨?_,?_⟩<;>omega)|exact rfl|fail)
  exact U7 (k + 1) (sub_names [(0,2)] (k0:=0) rfl (by rfl) (by repeat' (first|exact pullE_nil|(apply Yl;exact rfl)|exact Ren.sl _ _ _ _|(apply Ub;(· first|exact rfl|omega);(· first|exact rfl|assumption|(simp [Q1];done)|(simp [Q1];omega));(· first|exact rfl|assumption|(simp [Q1];done)|(simp [Q1];omega)))|exact Ren.ptr _ _ _|(apply Ren.pure;(first|exact Q4.out|exact Qe.out|assumption))|exact Qf|apply Q7|apply Qm|apply Qv)) (by repeat' (first|exact Ji|(apply Yj;(· first|exact rfl|exact congrArg (λ l=>some (Box.mk l _ _ _)) hset);(· (exact Q6.out)))|(apply Jh;exact rfl)|exact Qf|apply Q7|exact Ren.sl _ _ _ _|exact Ren.ptr _ _ _|(apply Ren.pure;(first|exact Q4.out|exact Qe.out|assumption))|apply Qm)) (by repeat' (first|exact lowE_nil|apply Ye|exact Low.sl _ _ _ _ (by decide)|exact Low.ptr _ _ _ (by decide)|(apply Low.pure;(first|exact Q4.out|exact Qe.out|assumption))|exact J0|apply Qq|apply U3|apply U2)) (by repeat' (first|exact Jc|apply J1|(apply Uf.low;(exact Q6.out))|apply Ju|exact Jv|exact J0|apply Qq|exact Low.sl _ _ _ _ (by decide)|exact Low.ptr _ _ _ (by decide)|(apply Low.pure;(first|exact Q4.out|exact Qe.out|assumption))))) (by omega) (by omega)
 ·have d1:decide ((k:Int) < ((tr.map blkA).length:Int)) = false:=decide_eq_false (by omega)
  obtain rfl:k = tr.length:=by omega
  rw [List.take_length]
  repeat' (first|refine Qh ?_|refine Q9 ?_|refine Ua ?_|refine Jt ?_|refine Jo ?_|refine Q8 Qc ?_|refine Qi ?_|refine Qu ?_|refine Un ?_|(apply J9;exact rfl;(· (first|assumption|exact rfl)))|apply Qd|apply Q2|apply Jd|exact Q0 rfl|exact rfl|fail)
  (apply E_U0 [(0,0)]<;>repeat' (first|exact J4|(apply J3;exact rfl)|(apply Qx;(iterate 6 exact rfl))|(apply J5;(iterate 4 exact rfl);(· (first|assumption|exact rfl)))|exact Ren.sl _ _ _ _|(apply Ub;(· first|exact rfl|omega);(· first|exact rfl|assumption|(simp [Q1];done)|(simp [Q1];omega));(· first|exact rfl|assumption|(simp [Q1];done)|(simp [Q1];omega)))|exact Ren.ptr _ _ _|exact Qf|apply Q7|(apply Ren.pure;exact Q4.out)|apply Qm|apply Qv|exact Low.sl _ _ _ _ (by decide)|exact Low.ptr _ _ _ (by decide)|exact J0|apply Qq|(apply Low.pure;exact Q4.out)|apply U3|apply U2|exact Ji|(apply Jx;exact rfl;(· first|exact rfl|assumption|(simp [bA];done));exact Q6.out)|(apply Jh;exact rfl)|exact Jc|apply J1|(apply Uf.low;exact Q6.out)|apply Ju|exact Jv|exact rfl))
theorem headsOf_cr (tr:List Blk) (hl:tr.length<=1048576) (N:Nat):CR Tryz.prog 59 [blkAS tr] [] N (Is (.sl N 0 tr.length tr.length) [(N,some ⟨(J2 tr).map hdA,6,true,false⟩)] (N + 1)) :=
 CR.allN (headsOf_cr0 tr hl) N (by first|exact Q4.out|exact Qe.out|assumption) (by repeat' (first|exact Ren.sl _ _ _ _|exact Ren.ptr _ _ _|exact Qf|apply Q7|(apply Ren.pure;(first|exact Q4.out|exact Qe.out|assumption))|apply Qm|apply Qv)) (by repeat' (first|exact Jn|(apply Ja;exact rfl;(· (exact Q6.out)))|(apply Jm;exact rfl)|exact Qf|apply Q7|exact Ren.sl _ _ _ _|exact Ren.ptr _ _ _|(apply Ren.pure;(first|exact Q4.out|exact Qe.out|assumption))|apply Qm))
theorem headsOf_cv (tr:List Blk) (hl:tr.length<=1048576):CV Tryz.prog 59 [blkAS tr] (· = hdAS (J2 tr)):=CR.byVal (headsOf_cr tr hl 0) (by simp [J2]) Q6.out
theorem l5Heads_cr0 (tr:List Blk) (hl:tr.length<=1048576):CR Tryz.prog 54 [blkAS tr] [] 0 (Is (.tup [.sl 0 0 tr.length tr.length,.sl (0 + 1) 0 tr.length tr.length]) [(0,some ⟨(J2 tr).map hdA,6,true,false⟩),(0 + 1,some ⟨((J2 tr).map digOr).map byA,1,true,false⟩)] (0 + 2)):=by
 refine Us Qc Tryz.func54 (by kernel_rfl) rfl 34 rfl (by simp) [.tmp 2,.tmp 3] rfl ?_
 intro w0 ok0 wr φ0
 have hml:(tr.map blkA).length = tr.length:=by simp
 have hH:J2 tr = tr.map Blk.head:=rfl
 rw [hH]
 repeat' (first|refine Qh ?_|refine Q9 ?_|refine Q8 Qc ?_|refine Qi ?_|refine Qo ?_|apply Q2|(apply S_buildL Qc;(iterate 3 exact rfl))|(dsimp only;omega)|exact U4|exact Uc|exact Q0 rfl|exact rfl|fail)
 refine Js (α:=Nat) (λ k=>⟨[(0,blkAS tr),(4,.sl 0 0 k k),(5,.sl 1 0 k k),(6,.int .i64 k)],[(0,some ⟨((tr.take k).map Blk.head).map hdA,6,true,false⟩),(1,some ⟨(((tr.take k).map Blk.head).map digOr).map byA,1,true,false⟩)],2⟩)
  (λ k=>tr.length - k) (λ k=>k<=tr.length) 0 ((Jp (by repeat' (first|exact Qy|refine Qr rfl ?_)) (by repeat' (first|exact Qz|refine Qt (by first|rfl|exact congrArg (λ l=>some (Box.mk l _ _ _)) hset) ?_)) (Nat.le_refl _))).sub (by omega) ?_
 intro k hk
 have hbl:(((tr.take k).map Blk.head).map hdA).length = k:=by rw [List.length_map,List.length_map,List.length_take];omega
 have hbl2:((((tr.take k).map Blk.head).map digOr).map byA).length = k:=by rw [List.length_map,List.length_map,List.length_map,List.length_take];omega
 by_cases hkl:k < tr.length
 ·have d1:decide ((k:Int) < ((tr.map blkA).length:Int)) = true:=decide_eq_true (by omega)
  have hget:=Uy blkA tr Blk0 (k:=k) (by omega)
  have e:=take_snoc tr Blk0 hkl
  have c0:=specDigOr_cv (tr.getD k Blk0).head
  generalize tr.getD k Blk0 = b at *
  have hset:((tr.take k).map Blk.head).map hdA++[hdA b.head] = ((tr.take (k + 1)).map Blk.head).map hdA:=by rw [e];simp
  have hset2:(((tr.take k).map Blk.head).map digOr).map byA++[byA (digOr b.head)] = (((tr.take (k + 1)).map Blk.head).map digOr).map byA:=by rw [e];simp
  have hw:IntKind.wrap .i64 ((k:Int) + 1) = ((k + 1:Nat):Int):=by rw [wrap_i64 (by omega) (by omega)];omega
  repeat' (first|refine Qh ?_|refine Q9 ?_|refine U9 ?_|refine Q8 Qc ?_|refine Qi ?_|refine Qw ?_|refine Qo ?_|(apply Jf;exact rfl;(· (first|assumption|exact rfl)))|apply Qd|apply Q2|(apply M_loadVA;exact rfl;exact rfl;exact Q0 rfl;(· (repeat' constructor)))|(apply S_fieldV;(iterate 4 exact rfl);exact Q0 rfl)|apply Jd|apply Y7|(apply Qp;exact rfl;exact Q0 rfl)|(apply Jk;exact rfl;exact rfl;exact Q0 rfl;exact Q0 rfl)|(apply M_appB;exact rfl;exact rfl;exact Q0 rfl)|(apply S_buildV Qc;exact rfl;exact rfl)|apply Jl (f:=110)|apply c0|exact Qe.out|(apply mlen;first|exact rfl|assumption|exact Nat.le_of_ble_eq_true rfl|omega|(simp [Q1];done)|(simp [Q1];omega))|(apply msz;first|assumption|exact Nat.le_of_ble_eq_true rfl|(dsimp only;simp only [List.length_append,List.length_map,List.length_cons,List.length_nil,Q1,List.length_take,List.length_drop,List.length_replicate] at *;omega)|(dsimp only;omega))|(apply mnorm;first|with_reducible exact app_nil0 _|exact app_norm _ _|exact rfl)|exact Src.ls rfl rfl|(dsimp only;omega)|exact U4|(apply Ug;exact Q0 rfl)|exact Uc|apply Uq|(intro hu;cases hu;done)|exact Q0 rfl|exact Ql|(apply Qg;exact Q0 rfl)|exact Q5 rfl rfl|assumption|(refine ⟨?_,?_⟩<;>omega)|exact rfl|fail)
  exact U7 (k + 1) (sub_names [(0,2),(1,3)] (k0:=0) rfl (by rfl) (by repeat' (first|exact pullE_nil|(apply Yl;exact rfl)|exact Ren.sl _ _ _ _|(apply Ub;(· first|exact rfl|omega);(· first|exact rfl|assumption|(simp [Q1];done)|(simp [Q1];omega));(· first|exact rfl|assumption|(simp [Q1];done)|(simp [Q1];omega)))|exact Ren.ptr _ _ _|(apply Ren.pure;(first|exact Q4.out|exact Qe.out|assumption))|exact Qf|apply Q7|apply Qm|apply Qv)) (by repeat' (first|exact Ji|(apply Yj;(· first|exact rfl|exact congrArg (λ l=>some (Box.mk l _ _ _)) hset|exact congrArg (λ l=>some (Box.mk l _ _ _)) hset2);(· (exact Q6.out)))|(apply Jh;exact rfl)|exact Qf|apply Q7|exact Ren.sl _ _ _ _|exact Ren.ptr _ _ _|(apply Ren.pure;(first|exact Q4.out|exact Qe.out|assumption))|apply Qm)) (by repeat' (first|exact lowE_nil|apply Ye|exact Low.sl _ _ _ _ (by decide)|exact Low.ptr _ _ _ (by decide)|(apply Low.pure;(first|exact Q4.out|exact Qe.out|assumption))|exact J0|apply Qq|apply U3|apply U2)) (by repeat' (first|exact Jc|apply J1|(apply Uf.low;(exact Q6.out))|apply Ju|exact Jv|exact J0|apply Qq|exact Low.sl _ _ _ _ (by decide)|exact Low.ptr _ _ _ (by decide)|(apply Low.pure;(first|exact Q4.out|exact Qe.out|assumption))))) (by omega) (by omega)
 ·have d1:decide ((k:Int) < ((tr.map blkA).length:Int)) = false:=decide_eq_false (by omega)
  obtain rfl:k = tr.length:=by omega
  rw [List.take_length]
  repeat' (first|refine Qh ?_|refine Q9 ?_|refine Ua ?_|refine Jt ?_|refine Jo ?_|refine Q8 Qc ?_|refine Qi ?_|refine Qu ?_|refine Un ?_|(apply J9;exact rfl;(· (first|assumption|exact rfl)))|apply Qd|apply Q2|apply Jd|(apply Qp;exact rfl;exact Q0 rfl)|exact Q0 rfl|exact rfl|fail)
  (apply E_U0 [(0,0),(1,1)]<;>repeat' (first|exact J4|(apply J3;exact rfl)|(apply Qx;(iterate 6 exact rfl))|(apply J5;(iterate 4 exact rfl);(· (first|assumption|exact rfl)))|exact Ren.sl _ _ _ _|(apply Ub;(· first|exact rfl|omega);(· first|exact rfl|assumption|(simp [Q1];done)|(simp [Q1];omega));(· first|exact rfl|assumption|(simp [Q1];done)|(simp [Q1];omega)))|exact Ren.ptr _ _ _|exact Qf|apply Q7|(apply Ren.pure;exact Q4.out)|apply Qm|apply Qv|exact Low.sl _ _ _ _ (by decide)|exact Low.ptr _ _ _ (by decide)|exact J0|apply Qq|(apply Low.pure;exact Q4.out)|apply U3|apply U2|exact Ji|(apply Jx;exact rfl;(· first|exact rfl|assumption|(simp [bA];done));exact Q6.out)|(apply Jh;exact rfl)|exact Jc|apply J1|(apply Uf.low;exact Q6.out)|apply Ju|exact Jv|exact rfl))
theorem l5Heads_cr (tr:List Blk) (hl:tr.length<=1048576) (N:Nat):CR Tryz.prog 54 [blkAS tr] [] N (Is (.tup [.sl N 0 tr.length tr.length,.sl (N + 1) 0 tr.length tr.length]) [(N,some ⟨(J2 tr).map hdA,6,true,false⟩),(N + 1,some ⟨((J2 tr).map digOr).map byA,1,true,false⟩)] (N + 2)) :=
 CR.allN (l5Heads_cr0 tr hl) N (by first|exact Q4.out|exact Qe.out|assumption) (by repeat' (first|exact Ren.sl _ _ _ _|exact Ren.ptr _ _ _|exact Qf|apply Q7|(apply Ren.pure;(first|exact Q4.out|exact Qe.out|assumption))|apply Qm|apply Qv)) (by repeat' (first|exact Jn|(apply Ja;exact rfl;(· (exact Q6.out)))|(apply Jm;exact rfl)|exact Qf|apply Q7|exact Ren.sl _ _ _ _|exact Ren.ptr _ _ _|(apply Ren.pure;(first|exact Q4.out|exact Qe.out|assumption))|apply Qm))
theorem l5Heads_cv (tr:List Blk) (hl:tr.length<=1048576):CV Tryz.prog 54 [blkAS tr] (· = .tup [hdAS (J2 tr),Y2 ((J2 tr).map digOr)]):=by
 refine (l5Heads_cr tr hl 0).toCV λ r bs n ⟨e1,e2,e3⟩=>?_
 subst e1 e2
 exact Ul ⟨view_slA rfl (by simp [J2]) Q6.out,view_slA rfl (by simp [J2]) Q6.out,trivial⟩
end Go.Proofs.YtaolmfgpebncjaaGreat
