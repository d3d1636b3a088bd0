/- Heads: chains, and the zeros that the next one must have. -/
import Derived.Test.YtaolmfgpebncjaaGreatZu
set_option maxRecDepth 100000
set_option maxHeartbeats 3200000
set_option linter.unusedSimpArgs false
set_option linter.unusedVariables false
namespace Go.Proofs.YtaolmfgpebncjaaGreat
open Go.Av
attribute [local irreducible] T thenQ Uv Y0 Uz WX retV retR Gt Gts GtsP Qs CV CR Av.Pure
attribute [local irreducible] sha zerosL lz8 hdD Jw wayD parI
def headAt (hs:List Hd) (j:Nat):Hd:=hs.getD j Hd0
def chainL (hs:List Hd) (i:Nat):List Hd:=(wayD hs i).reverse.map (headAt hs)
theorem chainL_length (hs:List Hd) (i:Nat):(chainL hs i).length = (wayD hs i).length:=by simp [chainL]
theorem chainTo_cv (hs:List Hd) (i:Nat) (hJ:Joined hs) (hi:i < hs.length) (hl:hs.length<=1000000) :
  CV Tryz.prog 58 [hdAS hs,.int .i64 (i:Int)] (· = sl1 ((wayD hs i).reverse.map natA)):=CR.byVal (chainTo_cr hs i hJ hi hl 0) (by simp) Q6.out
theorem headsAt_cr0 (hs:List Hd) (w:List Nat) (hw:∀ j∈w,j < hs.length) (hl:hs.length<=1000000) (hl2:w.length<=1000000):CR Tryz.prog 70 [hdAS hs,sl1 (w.map natA)] [] 0 (Is (.sl 0 0 w.length w.length) [(0,some ⟨(w.map (headAt hs)).map hdA,6,true,false⟩)] (0 + 1)):=by
 refine Us Qc Tryz.func70 (by kernel_rfl) rfl 24 rfl (by simp) [.tmp 4] rfl ?_
 intro w0 ok0 wr φ0
 have hml:(hs.map hdA).length = hs.length:=by simp
 have hwl:(w.map natA).length = w.length:=by simp
 repeat' (first|refine Qh ?_|refine Q9 ?_|refine Q8 Qc ?_|refine Qi ?_|refine Qo ?_|apply Qd|apply Q2|(apply Qp;exact rfl;exact Q0 rfl)|(apply S_buildL Qc;(iterate 3 exact rfl))|(dsimp only;omega)|exact U4|exact Uc|exact Q0 rfl|exact rfl|fail)
 refine Js (α:=Nat) (λ k=>⟨[(0,hdAS hs),(5,.sl 0 0 k k),(9,sl1 (w.map natA)),(10,.int .i64 (w.map natA).length),(11,.int .i64 k)],[(0,some ⟨((w.take k).map (headAt hs)).map hdA,6,true,false⟩)],1⟩)
  (λ k=>w.length - k) (λ k=>k<=w.length) 0 ((Jp (by repeat' (first|exact Qy|refine Qr rfl ?_)) (by repeat' (first|exact Qz|refine Qt (by first|rfl|exact congrArg (λ l=>some (Box.mk l _ _ _)) hset) ?_)) (Nat.le_refl _))).sub (by omega) ?_
 intro k hk
 have hbl:(((w.take k).map (headAt hs)).map hdA).length = k:=by rw [List.length_map,List.length_map,List.length_take];omega
 by_cases hkl:k < w.length
 ·have d1:decide ((k:Int) < ((w.map natA).length:Int)) = true:=decide_eq_true (by omega)
  have hget:=Uy natA w 0 (k:=k) (by omega)
  have e:w.take (k + 1) = w.take k++[w.getD k 0]:=by rw [List.take_add_one,List.getElem?_eq_getElem hkl,List.getD_eq_getElem?_getD,List.getElem?_eq_getElem hkl];rfl
  have hj:=hw _ (getD_mem w 0 hkl)
  generalize w.getD k 0 = j at *
  have hget2:=Uy hdA hs Hd0 (k:=j) (by omega)
  have eh:headAt hs j = hs.getD j Hd0:=rfl
  rw [<-eh] at hget2
  generalize hx:headAt hs j = x at *
  have hset:((w.take k).map (headAt hs)).map hdA++[hdA x] = ((w.take (k + 1)).map (headAt hs)).map hdA:=by rw [e];simp [hx]
  have hwr:IntKind.wrap .i64 ((k:Int) + 1) = ((k + 1:Nat):Int):=by rw [wrap_i64 (by omega) (by omega)];omega
  repeat' (first|refine Qh ?_|refine Q9 ?_|refine U9 ?_|refine Q8 Qc ?_|refine Qi ?_|refine Qw ?_|refine Qo ?_|(apply Jf;exact rfl;(· (first|assumption|exact rfl)))|apply Qd|apply Q2|(apply Ue;exact rfl;exact Q0 rfl;exact rfl;(· (first|exact ⟨rfl,rfl⟩|exact ⟨rfl,trivial⟩|assumption)))|(apply Uo;exact rfl;exact Q0 rfl;exact rfl;exact rfl)|apply Jd|apply Y7|(apply Jk;exact rfl;exact rfl;exact Q0 rfl;exact Q0 rfl)|(apply M_appB;exact rfl;exact rfl;exact Q0 rfl)|(apply S_buildV Qc;exact rfl;exact rfl)|(apply mlen;first|exact rfl|assumption|exact Nat.le_of_ble_eq_true rfl|omega|(simp [Q1];done)|(simp [Q1];omega))|(apply msz;first|assumption|exact Nat.le_of_ble_eq_true rfl|(dsimp only;simp only [List.length_append,List.length_map,List.length_cons,List.length_nil,Q1,List.length_take,List.length_drop,List.length_replicate] at *;omega)|(dsimp only;omega))|(apply mnorm;first|with_reducible exact app_nil0 _|exact app_norm _ _|exact rfl)|exact Src.ls rfl rfl|(dsimp only;omega)|exact U4|(apply Ug;exact Q0 rfl)|exact Uc|apply Uq|(intro hu;cases hu;done)|exact Q0 rfl|exact Q5 rfl rfl|assumption|(refine ⟨?_,?_⟩<;>omega)|exact rfl|fail)
  exact U7 (k + 1) (sub_names [(0,1)] (k0:=0) rfl (by rfl) (by repeat' (first|exact pullE_nil|(apply Yl;exact rfl)|exact Ren.sl _ _ _ _|(apply Ub;(· first|exact rfl|omega);(· first|exact rfl|assumption|(simp [Q1];done)|(simp [Q1];omega));(· first|exact rfl|assumption|(simp [Q1];done)|(simp [Q1];omega)))|exact Ren.ptr _ _ _|(apply Ren.pure;(first|exact Q4.out|exact Qe.out|assumption))|exact Qf|apply Q7|apply Qm|apply Qv)) (by repeat' (first|exact Ji|(apply Yj;(· first|exact rfl|exact congrArg (λ l=>some (Box.mk l _ _ _)) hset);(· (exact Q6.out)))|(apply Jh;exact rfl)|exact Qf|apply Q7|exact Ren.sl _ _ _ _|exact Ren.ptr _ _ _|(apply Ren.pure;(first|exact Q4.out|exact Qe.out|assumption))|apply Qm)) (by repeat' (first|exact lowE_nil|apply Ye|exact Low.sl _ _ _ _ (by decide)|exact Low.ptr _ _ _ (by decide)|(apply Low.pure;(first|exact Q4.out|exact Qe.out|assumption))|exact J0|apply Qq|apply U3|apply U2)) (by repeat' (first|exact Jc|apply J1|(apply Uf.low;(exact Q6.out))|apply Ju|exact Jv|exact J0|apply Qq|exact Low.sl _ _ _ _ (by decide)|exact Low.ptr _ _ _ (by decide)|(apply Low.pure;(first|exact Q4.out|exact Qe.out|assumption))))) (by omega) (by omega)
 ·have d1:decide ((k:Int) < ((w.map natA).length:Int)) = false:=decide_eq_false (by omega)
  obtain rfl:k = w.length:=by omega
  rw [List.take_length]
  repeat' (first|refine Qh ?_|refine Q9 ?_|refine Ua ?_|refine Jt ?_|refine Jo ?_|refine Q8 Qc ?_|refine Qi ?_|refine Qu ?_|refine Un ?_|(apply J9;exact rfl;(· (first|assumption|exact rfl)))|apply Qd|apply Q2|apply Jd|exact Q0 rfl|exact rfl|fail)
  (apply E_U0 [(0,0)]<;>repeat' (first|exact J4|(apply J3;exact rfl)|(apply Qx;(iterate 6 exact rfl))|(apply J5;(iterate 4 exact rfl);(· (first|assumption|exact rfl)))|exact Ren.sl _ _ _ _|(apply Ub;(· first|exact rfl|omega);(· first|exact rfl|assumption|(simp [Q1];done)|(simp [Q1];omega));(· first|exact rfl|assumption|(simp [Q1];done)|(simp [Q1];omega)))|exact Ren.ptr _ _ _|exact Qf|apply Q7|(apply Ren.pure;exact Q4.out)|apply Qm|apply Qv|exact Low.sl _ _ _ _ (by decide)|exact Low.ptr _ _ _ (by decide)|exact J0|apply Qq|(apply Low.pure;exact Q4.out)|apply U3|apply U2|exact Ji|(apply Jx;exact rfl;(· first|exact rfl|assumption|(simp [bA];done));exact Q6.out)|(apply Jh;exact rfl)|exact Jc|apply J1|(apply Uf.low;exact Q6.out)|apply Ju|exact Jv|exact rfl))
theorem headsAt_cr (hs:List Hd) (w:List Nat) (hw:∀ j∈w,j < hs.length) (hl:hs.length<=1000000) (hl2:w.length<=1000000) (N:Nat):CR Tryz.prog 70 [hdAS hs,sl1 (w.map natA)] [] N (Is (.sl N 0 w.length w.length) [(N,some ⟨(w.map (headAt hs)).map hdA,6,true,false⟩)] (N + 1)) :=
 CR.allN (headsAt_cr0 hs w hw hl hl2) N (by first|exact Q4.out|exact Qe.out|assumption) (by repeat' (first|exact Ren.sl _ _ _ _|exact Ren.ptr _ _ _|exact Qf|apply Q7|(apply Ren.pure;(first|exact Q4.out|exact Qe.out|assumption))|apply Qm|apply Qv)) (by repeat' (first|exact Jn|(apply Ja;exact rfl;(· (exact Q6.out)))|(apply Jm;exact rfl)|exact Qf|apply Q7|exact Ren.sl _ _ _ _|exact Ren.ptr _ _ _|(apply Ren.pure;(first|exact Q4.out|exact Qe.out|assumption))|apply Qm))
theorem headsAt_cv (hs:List Hd) (i:Nat) (hi:i < hs.length) (hl:hs.length<=100000):CV Tryz.prog 70 [hdAS hs,sl1 ((wayD hs i).reverse.map natA)] (· = hdAS (chainL hs i)):=by
 have h1:=wayD_le hs hi
 exact CR.byVal (headsAt_cr hs (wayD hs i).reverse (λ j hj=>by have:=wayD_mem hs hi (List.mem_reverse.1 hj);omega) (by omega) (by simp;omega) 0) (by simp [chainL]) Q6.out
theorem wayD_rev (hs:List Hd) {i:Nat} (h:i < hs.length):(wayD hs i).reverse = (wayD hs i).tail.reverse++[i]:=by
 by_cases h0:i = 0
 ·rw [h0,wayD_zero];rfl
 ·rw [wayD_step hs h h0];simp
theorem l5Way_cr0 (hs:List Hd) (i:Nat) (hJ:Joined hs) (hi:i < hs.length) (hl:hs.length<=100000) (hp:∀ x∈hs,x.parent.length<=1000000):CR Tryz.prog 55 [hdAS hs,Y2 (hs.map hdD),.int .i64 (i:Int)] [] 0 (Is (.sl 0 0 (wayD hs i).length (wayD hs i).length) [(0,some ⟨(wayD hs i).reverse.map natA,1,true,false⟩)] (0 + 1)):=by
 refine Us Qc Tryz.func55 (by kernel_rfl) rfl 29 rfl (by simp) [.tmp 6] rfl ?_
 intro w0 ok0 wr φ0
 have hml:(hs.map hdA).length = hs.length:=by simp
 have hdl:((hs.map hdD).map byA).length = hs.length:=by simp
 repeat' (first|refine Qh ?_|refine Q9 ?_|refine Q8 Qc ?_|refine Qi ?_|refine Qo ?_|apply Qd|apply Q2|(apply S_buildL Qc;(iterate 3 exact rfl))|(dsimp only;omega)|exact U4|(apply Ug;exact Q0 rfl)|exact Uc|apply Uq|(intro hu;cases hu;done)|exact Q0 rfl|exact Q5 rfl rfl|exact rfl|fail)
 refine Js (α:=List Nat×Nat×Nat) (λ s=>⟨[(0,hdAS hs),(1,Y2 (hs.map hdD)),(2,.int .i64 (s.2.1:Int)),(7,.sl 0 0 s.2.2 s.2.2)],[(0,some ⟨s.1.map natA,1,true,false⟩)],1⟩)
  (λ s=>s.2.1) (λ s=>s.2.1 < hs.length/\s.2.2 + s.2.1<=i + 1/\s.1.length = s.2.2/\(wayD hs i).reverse = (wayD hs s.2.1).tail.reverse++s.1) ([i],i,1) ((Jp (by repeat' (first|exact Qy|refine Qr rfl ?_)) (by repeat' (first|exact Qz|refine Qt (by first|rfl|exact congrArg (λ l=>some (Box.mk l _ _ _)) hset) ?_)) (Nat.le_refl _))).sub ⟨hi,by simp only;omega,rfl,wayD_rev hs hi⟩ ?_
 rintro ⟨acc,c,n⟩ ⟨hc,hal,hn,hI⟩
 simp only at hc hal hn hI ⊢
 have hbl:(acc.map natA).length = n:=by rw [List.length_map,hn]
 by_cases h0:c = 0
 ·have d0:decide ((0:Int) < (c:Int)) = false:=decide_eq_false (by omega)
  have hI2:(wayD hs i).reverse = acc:=by rw [hI,h0,wayD_zero];rfl
  have e3:(wayD hs i).length = n:=by rw [<-List.length_reverse,hI2,hn]
  rw [e3,hI2]
  repeat' (first|refine Qh ?_|refine Q9 ?_|refine Ua ?_|refine Jt ?_|refine Jo ?_|refine Q8 Qc ?_|refine Qi ?_|refine Qu ?_|refine Un ?_|(apply J9;exact rfl;(· (first|assumption|exact rfl)))|apply Qd|apply Q2|apply S_gtr|exact Q0 rfl|exact rfl|fail)
  (apply E_U0 [(0,0)]<;>repeat' (first|exact J4|(apply J3;exact rfl)|(apply Qx;(iterate 6 exact rfl))|(apply J5;(iterate 4 exact rfl);(· (first|assumption|exact rfl)))|exact Ren.sl _ _ _ _|(apply Ub;(· first|exact rfl|omega);(· first|exact rfl|assumption|(simp [Q1];done)|(simp [Q1];omega));(· first|exact rfl|assumption|(simp [Q1];done)|(simp [Q1];omega)))|exact Ren.ptr _ _ _|exact Qf|apply Q7|(apply Ren.pure;exact Q4.out)|apply Qm|apply Qv|exact Low.sl _ _ _ _ (by decide)|exact Low.ptr _ _ _ (by decide)|exact J0|apply Qq|(apply Low.pure;exact Q4.out)|apply U3|apply U2|exact Ji|(apply Jx;exact rfl;(· first|exact rfl|assumption|(simp [bA];done));exact Q6.out)|(apply Jh;exact rfl)|exact Jc|apply J1|(apply Uf.low;exact Q6.out)|apply Ju|exact Jv|exact rfl))
 ·have d0:decide ((0:Int) < (c:Int)) = true:=decide_eq_true (by omega)
  have hpr:=parI_range hs c (by omega)
  have hp0:=hJ.2 c (by omega) hc
  have hget:=Uy hdA hs Hd0 (k:=c) (by omega)
  have t1:=map_takeF byA (hs.map hdD) c
  have t2:(hs.map hdD).take c = (hs.take c).map hdD:=by rw [List.map_take]
  rw [t2] at t1
  have c1:=l5Place_cv ((hs.take c).map hdD) (hs.getD c Hd0).parent (by rw [List.length_map,List.length_take];omega) (λ w hw=>by
   obtain ⟨x,_,rfl⟩:=List.mem_map.1 hw
   rw [hdD_length];decide) (by have:=hp _ (getD_mem hs Hd0 hc);omega)
  have e2:Yh ((hs.take c).map hdD) (hs.getD c Hd0).parent = (((parI hs c).toNat:Nat):Int):=by
   have:Yh ((hs.take c).map hdD) (hs.getD c Hd0).parent = parI hs c:=by unfold parI;rfl
   rw [this];omega
  rw [e2] at c1
  have hset:[.int .i64 (((parI hs c).toNat:Nat):Int)]++acc.map natA = ((parI hs c).toNat::acc).map natA:=rfl
  have d2:decide ((((parI hs c).toNat:Nat):Int) < 0) = false:=decide_eq_false (by omega)
  rw [wayD_step hs hc h0,List.tail_cons,wayD_rev hs (i:=(parI hs c).toNat) (by omega)] at hI
  have hmt:(acc.map natA).take n = acc.map natA:=List.take_of_length_le (by omega)
  have hmt2:((acc.map natA).drop 0).take n = acc.map natA:=hmt
  repeat' (first|refine Qh ?_|refine Q9 ?_|refine U9 ?_|refine Q8 Qc ?_|(apply T_drawM (id:=3) 8 Qc Uw;exact rfl;exact rfl;(· kernel_rfl);exact Nat.le_of_ble_eq_true rfl)|refine Qi ?_|refine Qw ?_|refine Qo ?_|(apply Jf;exact rfl;(· (first|assumption|exact rfl)))|(apply J9;exact rfl;(· (first|assumption|exact rfl)))|apply Qd|apply Q2|(apply Ue;exact rfl;exact Q0 rfl;exact rfl;(· (first|exact ⟨rfl,rfl⟩|exact ⟨rfl,trivial⟩|assumption)))|(apply S_fieldV;(iterate 4 exact rfl);exact Q0 rfl)|apply Jd|apply S_gtr|(apply Jk;exact rfl;exact rfl;exact Q0 rfl;exact Q0 rfl)|(apply M_appB;exact rfl;exact rfl;exact Q0 rfl)|(apply S_buildL Qc;(iterate 3 exact rfl))|(apply M_slLs;exact rfl;exact rfl;exact Q0 rfl;exact rfl)|apply Qk (f:=111)|apply c1|exact Qa|apply Q3|(apply View.pure;exact Q4.out)|(apply mtake;first|assumption|exact Ux (by first|rfl|(simp;done))|exact rfl)|exact Jq.out|(apply mlen;first|exact rfl|assumption|exact Nat.le_of_ble_eq_true rfl|omega|(simp [Q1];done)|(simp [Q1];omega))|(apply msz;first|assumption|exact Nat.le_of_ble_eq_true rfl|(dsimp only;simp only [List.length_append,List.length_map,List.length_cons,List.length_nil,Q1,List.length_take,List.length_drop,List.length_replicate] at *;omega)|(dsimp only;omega))|(apply mnorm;first|with_reducible exact app_nil0 _|exact app_norm _ _|exact rfl)|(apply mtake;first|assumption|exact Ux (by first|rfl|(simp;done))|exact rfl)|(apply src_sl;(iterate 3 exact rfl))|(dsimp only;omega)|(apply mnat;first|exact Int.toNat_natCast _|exact rfl)|exact Bd.no _|(apply bd_at;exact Q0 rfl)|exact U4|(apply Ug;exact Q0 rfl)|exact Uc|apply Uq|(intro hu;cases hu;done)|exact Q0 rfl|exact Ql|(apply Qg;exact Q0 rfl)|exact Q5 rfl rfl|assumption|(refine ⟨?_,?_⟩<;>omega)|omega|exact rfl|fail)
  exact U7 ((parI hs c).toNat::acc,(parI hs c).toNat,1 + n) (sub_names [(0,2)] (k0:=0) rfl (by rfl) (by repeat' (first|exact pullE_nil|(apply Yl;exact rfl)|exact Ren.sl _ _ _ _|(apply Ub;(· first|exact rfl|omega);(· first|exact rfl|assumption|(simp [Q1];done)|(simp [Q1];omega));(· first|exact rfl|assumption|(simp [Q1];done)|(simp [Q1];omega)))|exact Ren.ptr _ _ _|(apply Ren.pure;(first|exact Q4.out|exact Qe.out|assumption))|exact Qf|apply Q7|apply Qm|apply Qv)) (by repeat' (first|exact Ji|(apply Yj;(· first|exact rfl|exact congrArg (λ l=>some (Box.mk l _ _ _)) hset);(· (exact Q6.out)))|(apply Jh;exact rfl)|exact Qf|apply Q7|exact Ren.sl _ _ _ _|exact Ren.ptr _ _ _|(apply Ren.pure;(first|exact Q4.out|exact Qe.out|assumption))|apply Qm)) (by repeat' (first|exact lowE_nil|apply Ye|exact Low.sl _ _ _ _ (by decide)|exact Low.ptr _ _ _ (by decide)|(apply Low.pure;(first|exact Q4.out|exact Qe.out|assumption))|exact J0|apply Qq|apply U3|apply U2)) (by repeat' (first|exact Jc|apply J1|(apply Uf.low;(exact Q6.out))|apply Ju|exact Jv|exact J0|apply Qq|exact Low.sl _ _ _ _ (by decide)|exact Low.ptr _ _ _ (by decide)|(apply Low.pure;(first|exact Q4.out|exact Qe.out|assumption))))) ⟨by simp only;omega,by simp only;omega,by simp only [List.length_cons];omega,by rw [hI];simp⟩ (by simp only;omega)
theorem l5Way_cr (hs:List Hd) (i:Nat) (hJ:Joined hs) (hi:i < hs.length) (hl:hs.length<=100000) (hp:∀ x∈hs,x.parent.length<=1000000) (N:Nat):CR Tryz.prog 55 [hdAS hs,Y2 (hs.map hdD),.int .i64 (i:Int)] [] N (Is (.sl N 0 (wayD hs i).length (wayD hs i).length) [(N,some ⟨(wayD hs i).reverse.map natA,1,true,false⟩)] (N + 1)) :=
 CR.allN (l5Way_cr0 hs i hJ hi hl hp) N (by first|exact Q4.out|exact Qe.out|assumption) (by repeat' (first|exact Ren.sl _ _ _ _|exact Ren.ptr _ _ _|exact Qf|apply Q7|(apply Ren.pure;(first|exact Q4.out|exact Qe.out|assumption))|apply Qm|apply Qv)) (by repeat' (first|exact Jn|(apply Ja;exact rfl;(· (exact Q6.out)))|(apply Jm;exact rfl)|exact Qf|apply Q7|exact Ren.sl _ _ _ _|exact Ren.ptr _ _ _|(apply Ren.pure;(first|exact Q4.out|exact Qe.out|assumption))|apply Qm))
theorem l5Way_cv (hs:List Hd) (i:Nat) (hJ:Joined hs) (hi:i < hs.length) (hl:hs.length<=100000) (hp:∀ x∈hs,x.parent.length<=1000000) :
  CV Tryz.prog 55 [hdAS hs,Y2 (hs.map hdD),.int .i64 (i:Int)] (· = sl1 ((wayD hs i).reverse.map natA)):=CR.byVal (l5Way_cr hs i hJ hi hl hp 0) (by simp) Q6.out
theorem l5Chain_cr0 (hs:List Hd) (i:Nat) (hJ:Joined hs) (hi:i < hs.length) (hl:hs.length<=100000) (hp:∀ x∈hs,x.parent.length<=1000000):CR Tryz.prog 121 [hdAS hs,Y2 (hs.map hdD),.int .i64 (i:Int)] [] 0 (Is (.sl 0 0 (wayD hs i).reverse.length (wayD hs i).reverse.length) [(0,some ⟨((wayD hs i).reverse.map (headAt hs)).map hdA,6,true,false⟩)] (0 + 1)):=by
 refine Us Qc Tryz.func121 (by kernel_rfl) rfl 32 rfl (by simp) [.tmp 6] rfl ?_
 intro w0 ok0 wr φ0
 have c0:=l5Way_cv hs i hJ hi hl hp
 have hl2:(wayD hs i).reverse.length<=1000000:=by have:=wayD_le hs hi;simp;omega
 have hw:∀ j∈(wayD hs i).reverse,j < hs.length:=λ j hj=>by have:=wayD_mem hs hi (List.mem_reverse.1 hj);omega
 generalize (wayD hs i).reverse = w at *
 generalize hs.map hdD = ds at *
 have hml:(hs.map hdA).length = hs.length:=by simp
 have hwl:(w.map natA).length = w.length:=by simp
 repeat' (first|refine Qh ?_|refine Q9 ?_|refine Q8 Qc ?_|refine Qi ?_|refine Qo ?_|apply Qd|apply Q2|(apply S_buildL Qc;(iterate 3 exact rfl))|apply Jl (f:=55)|apply c0|exact Qe.out|(dsimp only;omega)|exact U4|exact Uc|exact Q0 rfl|exact Ql|(apply Qg;exact Q0 rfl)|exact rfl|fail)
 refine Js (α:=Nat) (λ k=>⟨[(0,hdAS hs),(7,sl1 (w.map natA)),(8,.sl 0 0 k k),(9,.int .i64 k)],[(0,some ⟨((w.take k).map (headAt hs)).map hdA,6,true,false⟩)],1⟩)
  (λ k=>w.length - k) (λ k=>k<=w.length) 0 ((Jp (by repeat' (first|exact Qy|refine Qr rfl ?_)) (by repeat' (first|exact Qz|refine Qt (by first|rfl|exact congrArg (λ l=>some (Box.mk l _ _ _)) hset) ?_)) (Nat.le_refl _))).sub (by omega) ?_
 intro k hk
 have hbl:(((w.take k).map (headAt hs)).map hdA).length = k:=by rw [List.length_map,List.length_map,List.length_take];omega
 by_cases hkl:k < w.length
 ·have d1:decide ((k:Int) < ((w.map natA).length:Int)) = true:=decide_eq_true (by omega)
  have hget:=Uy natA w 0 (k:=k) (by omega)
  have e:w.take (k + 1) = w.take k++[w.getD k 0]:=by rw [List.take_add_one,List.getElem?_eq_getElem hkl,List.getD_eq_getElem?_getD,List.getElem?_eq_getElem hkl];rfl
  have hj:=hw _ (getD_mem w 0 hkl)
  generalize w.getD k 0 = j at *
  have hget2:=Uy hdA hs Hd0 (k:=j) (by omega)
  have eh:headAt hs j = hs.getD j Hd0:=rfl
  rw [<-eh] at hget2
  generalize hx:headAt hs j = x at *
  have hset:((w.take k).map (headAt hs)).map hdA++[hdA x] = ((w.take (k + 1)).map (headAt hs)).map hdA:=by rw [e];simp [hx]
  have hwr:IntKind.wrap .i64 ((k:Int) + 1) = ((k + 1:Nat):Int):=by rw [wrap_i64 (by omega) (by omega)];omega
  repeat' (first|refine Qh ?_|refine Q9 ?_|refine U9 ?_|refine Q8 Qc ?_|refine Qi ?_|refine Qw ?_|refine Qo ?_|(apply Jf;exact rfl;(· (first|assumption|exact rfl)))|apply Qd|apply Q2|(apply Ue;exact rfl;exact Q0 rfl;exact rfl;(· (first|exact ⟨rfl,rfl⟩|exact ⟨rfl,trivial⟩|assumption)))|(apply Uo;exact rfl;exact Q0 rfl;exact rfl;exact rfl)|apply Jd|apply Y7|(apply Qp;exact rfl;exact Q0 rfl)|(apply Jk;exact rfl;exact rfl;exact Q0 rfl;exact Q0 rfl)|(apply M_appB;exact rfl;exact rfl;exact Q0 rfl)|(apply S_buildV Qc;exact rfl;exact rfl)|(apply mlen;first|exact rfl|assumption|exact Nat.le_of_ble_eq_true rfl|omega|(simp [Q1];done)|(simp [Q1];omega))|(apply msz;first|assumption|exact Nat.le_of_ble_eq_true rfl|(dsimp only;simp only [List.length_append,List.length_map,List.length_cons,List.length_nil,Q1,List.length_take,List.length_drop,List.length_replicate] at *;omega)|(dsimp only;omega))|(apply mnorm;first|with_reducible exact app_nil0 _|exact app_norm _ _|exact rfl)|exact Src.ls rfl rfl|(dsimp only;omega)|exact U4|(apply Ug;exact Q0 rfl)|exact Uc|apply Uq|(intro hu;cases hu;done)|exact Q0 rfl|exact Q5 rfl rfl|assumption|(refine ⟨?_,?_⟩<;>omega)|exact rfl|fail)
  exact U7 (k + 1) (sub_names [(0,1)] (k0:=0) rfl (by rfl) (by repeat' (first|exact pullE_nil|(apply Yl;exact rfl)|exact Ren.sl _ _ _ _|(apply Ub;(· first|exact rfl|omega);(· first|exact rfl|assumption|(simp [Q1];done)|(simp [Q1];omega));(· first|exact rfl|assumption|(simp [Q1];done)|(simp [Q1];omega)))|exact Ren.ptr _ _ _|(apply Ren.pure;(first|exact Q4.out|exact Qe.out|assumption))|exact Qf|apply Q7|apply Qm|apply Qv)) (by repeat' (first|exact Ji|(apply Yj;(· first|exact rfl|exact congrArg (λ l=>some (Box.mk l _ _ _)) hset);(· (exact Q6.out)))|(apply Jh;exact rfl)|exact Qf|apply Q7|exact Ren.sl _ _ _ _|exact Ren.ptr _ _ _|(apply Ren.pure;(first|exact Q4.out|exact Qe.out|assumption))|apply Qm)) (by repeat' (first|exact lowE_nil|apply Ye|exact Low.sl _ _ _ _ (by decide)|exact Low.ptr _ _ _ (by decide)|(apply Low.pure;(first|exact Q4.out|exact Qe.out|assumption))|exact J0|apply Qq|apply U3|apply U2)) (by repeat' (first|exact Jc|apply J1|(apply Uf.low;(exact Q6.out))|apply Ju|exact Jv|exact J0|apply Qq|exact Low.sl _ _ _ _ (by decide)|exact Low.ptr _ _ _ (by decide)|(apply Low.pure;(first|exact Q4.out|exact Qe.out|assumption))))) (by omega) (by omega)
 ·have d1:decide ((k:Int) < ((w.map natA).length:Int)) = false:=decide_eq_false (by omega)
  obtain rfl:k = w.length:=by omega
  rw [List.take_length]
  repeat' (first|refine Qh ?_|refine Q9 ?_|refine Ua ?_|refine Jt ?_|refine Jo ?_|refine Q8 Qc ?_|refine Qi ?_|refine Qu ?_|refine Un ?_|(apply J9;exact rfl;(· (first|assumption|exact rfl)))|apply Qd|apply Q2|apply Jd|(apply Qp;exact rfl;exact Q0 rfl)|exact Q0 rfl|exact rfl|fail)
  (apply E_U0 [(0,0)]<;>repeat' (first|exact J4|(apply J3;exact rfl)|(apply Qx;(iterate 6 exact rfl))|(apply J5;(iterate 4 exact rfl);(· (first|assumption|exact rfl)))|exact Ren.sl _ _ _ _|(apply Ub;(· first|exact rfl|omega);(· first|exact rfl|assumption|(simp [Q1];done)|(simp [Q1];omega));(· first|exact rfl|assumption|(simp [Q1];done)|(simp [Q1];omega)))|exact Ren.ptr _ _ _|exact Qf|apply Q7|(apply Ren.pure;exact Q4.out)|apply Qm|apply Qv|exact Low.sl _ _ _ _ (by decide)|exact Low.ptr _ _ _ (by decide)|exact J0|apply Qq|(apply Low.pure;exact Q4.out)|apply U3|apply U2|exact Ji|(apply Jx;exact rfl;(· first|exact rfl|assumption|(simp [bA];done));exact Q6.out)|(apply Jh;exact rfl)|exact Jc|apply J1|(apply Uf.low;exact Q6.out)|apply Ju|exact Jv|exact rfl))
theorem l5Chain_cr (hs:List Hd) (i:Nat) (hJ:Joined hs) (hi:i < hs.length) (hl:hs.length<=100000) (hp:∀ x∈hs,x.parent.length<=1000000) (N:Nat):CR Tryz.prog 121 [hdAS hs,Y2 (hs.map hdD),.int .i64 (i:Int)] [] N (Is (.sl N 0 (wayD hs i).reverse.length (wayD hs i).reverse.length) [(N,some ⟨((wayD hs i).reverse.map (headAt hs)).map hdA,6,true,false⟩)] (N + 1)) :=
 CR.allN (l5Chain_cr0 hs i hJ hi hl hp) N (by first|exact Q4.out|exact Qe.out|assumption) (by repeat' (first|exact Ren.sl _ _ _ _|exact Ren.ptr _ _ _|exact Qf|apply Q7|(apply Ren.pure;(first|exact Q4.out|exact Qe.out|assumption))|apply Qm|apply Qv)) (by repeat' (first|exact Jn|(apply Ja;exact rfl;(· (exact Q6.out)))|(apply Jm;exact rfl)|exact Qf|apply Q7|exact Ren.sl _ _ _ _|exact Ren.ptr _ _ _|(apply Ren.pure;(first|exact Q4.out|exact Qe.out|assumption))|apply Qm))
theorem l5Chain_cv (hs:List Hd) (i:Nat) (hJ:Joined hs) (hi:i < hs.length) (hl:hs.length<=100000) (hp:∀ x∈hs,x.parent.length<=1000000) :
  CV Tryz.prog 121 [hdAS hs,Y2 (hs.map hdD),.int .i64 (i:Int)] (· = hdAS (chainL hs i)):=by
 exact CR.byVal (l5Chain_cr hs i hJ hi hl hp 0) (by simp [chainL]) Q6.out
end Go.Proofs.YtaolmfgpebncjaaGreat
