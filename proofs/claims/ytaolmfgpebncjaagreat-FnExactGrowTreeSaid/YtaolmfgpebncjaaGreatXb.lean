/- A block of 64 bytes added to a state. -/
import Derived.Test.YtaolmfgpebncjaaGreatXa
set_option maxRecDepth 100000
set_option maxHeartbeats 3200000
set_option linter.unusedSimpArgs false
set_option linter.unusedVariables false
namespace Go.Proofs.YtaolmfgpebncjaaGreat
open Go.Av
attribute [local irreducible] T thenQ Uv Y0 Uz WX retV retR Gt Gts GtsP Qs CV CR Av.Pure
attribute [local irreducible] wGo rGo shaSt mixL blockL turnL addL keysL rotr sig0 sig1 padL sha
attribute [local semireducible] keysL in
theorem keys_cv:CV Tryz.prog 193 [] (· = arU keysL):=by
 refine J7 Qc Tryz.func193 (by kernel_rfl) rfl 2 rfl (by simp) [.cell 0 191] rfl ?_
 intro w0 ok0
 repeat' (first|refine Qh ?_|refine Q9 ?_|refine Q8 Qc ?_|refine Qi ?_|refine Qu ?_|(apply E_X<;>repeat' (first|exact J4|(apply J3;exact rfl)|(apply Qx;(iterate 6 exact rfl))|(apply J5;(iterate 4 exact rfl);(· (first|assumption|exact rfl)))|(apply view_aggP;exact Qe.out)|exact Qa|apply Q3|apply Jb|(apply Uu;exact rfl;(· first|exact rfl|assumption|(simp [Q1];done)|(simp [Q1];omega)|omega);exact Q6.out)|(apply U8;exact Q6.out)|apply Uh|apply Ul|(apply View.ofEq;exact Q4.out)|exact rfl))|(apply S_buildAL Qc;(iterate 4 exact rfl);(· repeat' (first|exact U4|(apply Ug;exact Q0 rfl)));exact rfl;(· infer_instance))|apply U0|(apply Jg;exact rfl;exact Q0 rfl;(iterate 4 exact rfl))|exact Q0 rfl|exact Q5 rfl rfl|exact rfl|fail)
theorem keysL_length:keysL.length = 64:=by unfold keysL;rfl
theorem byte_at (m:List UInt8) {k:Nat} (h:k < m.length):(bA m).getD ((k:Int)).toNat .undef = .int .u8 ((m.getD k 0).toNat:Int):=bA_getD m h
theorem block_cv (s:List UInt32) (m:List UInt8) (hs:s.length = 8) (hm:m.length = 64):CV Tryz.prog 174 [arU s,sl1 (bA m)] (· = arU (blockL s m)):=by
 refine J7 Qc Tryz.func174 (by kernel_rfl) rfl 122 rfl (by simp) [.cell 4 175] rfl ?_
 intro w0 ok0
 have hml:(bA m).length = 64:=by rw [Q1,hm]
 have oks:Qs 8 (arU s):=okCells_arr _ _ hs
 have hsl:(s.map u32A).length = 8:=by rw [List.length_map,hs]
 have okz:Qs 64 (arU (List.replicate 64 0)):=okCells_arr _ _ (by simp)
 repeat' (first|refine Qh ?_|refine Q9 ?_|refine Q8 Qc ?_|refine Qi ?_|refine Qo ?_|(apply S_buildA0 Qc;(iterate 3 exact rfl);(· apply mix;exact rfl))|apply Qd|apply U0|apply Yd|(apply Jg;exact rfl;exact Q0 rfl;(iterate 4 exact rfl))|exact Q0 rfl|exact Q5 rfl rfl|assumption|exact rfl|fail)
 refine Js (α:=Nat) (λ i=>⟨[(1,sl1 (bA m)),(2,.ptr 0 0 0),(4,.ptr 1 0 0),(5,.ptr 2 0 0),(16,.int .i64 i)],[(0,some ⟨[arU s],8,false,false⟩),(1,some ⟨[arU [0,0,0,0,0,0,0,0]],8,false,false⟩),(2,some ⟨[arU (wGo m i)],64,false,false⟩)],3⟩)
  (λ i=>64 - i) (λ i=>i<=64) 0 ?_ (by omega) ?_
 ·rw [show wGo m 0 = List.replicate 64 0 by rw [wGo]]
  exact ((Jp (by repeat' (first|exact Qy|refine Qr rfl ?_)) (by repeat' (first|exact Qz|refine Qt (by first|rfl|exact congrArg (λ l=>some (Box.mk l _ _ _)) hset) ?_)) (Nat.le_refl _))).sub
 intro i hi
 have hwl:((wGo m i).map u32A).length = 64:=by rw [List.length_map,wGo_length]
 have hix:=ix_nat i
 by_cases h64:i < 64
 ·have hc:decide ((i:Int) < 64) = true:=by simp only [decide_eq_true_eq];omega
  have hw1:IntKind.wrap .i64 ((i:Int) + 1) = ((i + 1:Nat):Int):=by rw [wrap_i64 (by omega) (by omega)];omega
  by_cases h16:i < 16
  ·have hd:decide ((i:Int) < 16) = true:=by simp only [decide_eq_true_eq];omega
   have e0:IntKind.wrap .i64 (4 * (i:Int)) = ((4 * i:Nat):Int):=by rw [wrap_i64 (by omega) (by omega)];omega
   have e1:IntKind.wrap .i64 (((4 * i:Nat):Int) + 1) = ((4 * i + 1:Nat):Int):=by rw [wrap_i64 (by omega) (by omega)];omega
   have e2:IntKind.wrap .i64 (((4 * i:Nat):Int) + 2) = ((4 * i + 2:Nat):Int):=by rw [wrap_i64 (by omega) (by omega)];omega
   have e3:IntKind.wrap .i64 (((4 * i:Nat):Int) + 3) = ((4 * i + 3:Nat):Int):=by rw [wrap_i64 (by omega) (by omega)];omega
   have b0:=byte_at m (k:=4 * i) (by omega)
   have b1:=byte_at m (k:=4 * i + 1) (by omega)
   have b2:=byte_at m (k:=4 * i + 2) (by omega)
   have b3:=byte_at m (k:=4 * i + 3) (by omega)
   have hst:((wGo m i).map u32A).set i (u32A ((((m.getD (4 * i) 0).toUInt32 <<< 24 ||| (m.getD (4 * i + 1) 0).toUInt32 <<< 16) ||| (m.getD (4 * i + 2) 0).toUInt32 <<< 8) ||| (m.getD (4 * i + 3) 0).toUInt32)) = (wGo m (i + 1)).map u32A:=by
    rw [arr_set,wGo,wordAt,if_pos h16,word4]
   repeat' (first|refine Qh ?_|refine Q9 ?_|refine Ua ?_|refine Jt ?_|refine Q8 Qc ?_|(apply T_drawM (id:=6) 35 Qc Uw;exact rfl;exact rfl;(· kernel_rfl);exact Nat.le_of_ble_eq_true rfl)|refine Qi ?_|refine Qw ?_|refine Un ?_|refine Qo ?_|(apply M_idxAP;exact rfl;exact rfl;exact Q0 rfl;exact Q0 rfl;(· (first|assumption|exact ⟨by omega,by omega⟩));(· (apply mix;first|assumption|exact rfl)))|(apply M_storeAr;exact rfl;exact Q0 rfl;(iterate 4 exact rfl);exact Q0 rfl;exact rfl;exact rfl)|(apply Jf;exact rfl;(· (first|assumption|exact rfl)))|apply Qd|apply Q2|(apply Ue;exact rfl;exact Q0 rfl;exact rfl;(· (first|exact ⟨rfl,rfl⟩|exact ⟨rfl,trivial⟩|assumption)))|apply Jd|apply Y7|apply S_mul|(apply S_conv;exact rfl;exact rfl;exact Q0 rfl)|apply S_shlW|(apply Jk;exact rfl;exact rfl;exact Q0 rfl;exact Q0 rfl)|(apply S_bits;(· (first|exact Or.inl rfl|exact Or.inr (Or.inl rfl)|exact Or.inr (Or.inr (Or.inl rfl))|exact Or.inr (Or.inr (Or.inr rfl)))))|with_reducible apply Go.Av.u32_or|with_reducible apply Go.Av.u8_u32|with_reducible apply Go.Av.u32_shl24|with_reducible apply Go.Av.u32_shl16|with_reducible apply Go.Av.u32_shl8|(apply mix;first|assumption|exact rfl)|(apply mix;first|assumption|exact rfl)|(apply mlen;first|exact rfl|assumption|exact Nat.le_of_ble_eq_true rfl|omega|(simp [Q1];done)|(simp [Q1];omega))|exact Q0 rfl|assumption|(refine ⟨?_,?_⟩<;>omega)|omega|exact rfl|fail)
   exact U7 (i + 1) ((Jp (by repeat' (first|exact Qy|refine Qr rfl ?_)) (by repeat' (first|exact Qz|refine Qt (by first|rfl|exact congrArg (λ l=>some (Box.mk l _ _ _)) hset) ?_)) (Nat.le_refl _))).sub (by omega) (by omega)
  ·have hd:decide ((i:Int) < 16) = false:=by simp only [decide_eq_false_iff_not];omega
   have e15:IntKind.wrap .i64 ((i:Int) - 15) = ((i - 15:Nat):Int):=by rw [wrap_i64 (by omega) (by omega)];omega
   have e2:IntKind.wrap .i64 ((i:Int) - 2) = ((i - 2:Nat):Int):=by rw [wrap_i64 (by omega) (by omega)];omega
   have e7:IntKind.wrap .i64 ((i:Int) - 7) = ((i - 7:Nat):Int):=by rw [wrap_i64 (by omega) (by omega)];omega
   have e16:IntKind.wrap .i64 ((i:Int) - 16) = ((i - 16:Nat):Int):=by rw [wrap_i64 (by omega) (by omega)];omega
   have x15:=ix_nat (i - 15)
   have x2:=ix_nat (i - 2)
   have x7:=ix_nat (i - 7)
   have x16:=ix_nat (i - 16)
   have g15:=arr_at u32A (wGo m i) 0 (k:=i - 15) (by rw [wGo_length];omega)
   have g2:=arr_at u32A (wGo m i) 0 (k:=i - 2) (by rw [wGo_length];omega)
   have g7:=arr_at u32A (wGo m i) 0 (k:=i - 7) (by rw [wGo_length];omega)
   have g16:=arr_at u32A (wGo m i) 0 (k:=i - 16) (by rw [wGo_length];omega)
   have hst:((wGo m i).map u32A).set i (u32A (sig1 ((wGo m i).getD (i - 2) 0) + (wGo m i).getD (i - 7) 0 + sig0 ((wGo m i).getD (i - 15) 0) + (wGo m i).getD (i - 16) 0)) = (wGo m (i + 1)).map u32A:=by
    rw [arr_set,wGo,wordAt,if_neg h16]
   unfold sig0 sig1 at hst
   generalize (wGo m i).getD (i - 15) 0 = p15 at *
   generalize (wGo m i).getD (i - 2) 0 = p2 at *
   generalize (wGo m i).getD (i - 7) 0 = p7 at *
   generalize (wGo m i).getD (i - 16) 0 = p16 at *
   have c7:=rotl_cv p15 7 (by decide) (by decide)
   have c18:=rotl_cv p15 18 (by decide) (by decide)
   have c17:=rotl_cv p2 17 (by decide) (by decide)
   have c19:=rotl_cv p2 19 (by decide) (by decide)
   repeat' (first|refine Qh ?_|refine Q9 ?_|refine U9 ?_|refine Q8 Qc ?_|(apply T_drawM (id:=10) 15 Qc Uw;exact rfl;exact rfl;(· kernel_rfl);exact Nat.le_of_ble_eq_true rfl)|(apply Ur Qc Uw;(· kernel_rfl))|refine Qi ?_|refine Qw ?_|refine Qo ?_|(apply M_idxAP;exact rfl;exact rfl;exact Q0 rfl;exact Q0 rfl;(· (first|assumption|exact ⟨by omega,by omega⟩));(· (apply mix;first|assumption|exact rfl)))|(apply M_loadAr;exact rfl;exact Q0 rfl;exact rfl;(· (first|assumption|exact rfl));(· (first|exact ⟨rfl,rfl⟩|exact ⟨rfl,trivial⟩|assumption)))|(apply M_storeAr;exact rfl;exact Q0 rfl;(iterate 4 exact rfl);exact Q0 rfl;exact rfl;exact rfl)|(apply Jf;exact rfl;(· (first|assumption|exact rfl)))|(apply J9;exact rfl;(· (first|assumption|exact rfl)))|apply Qd|apply Q2|apply Jd|apply Y7|apply S_sub|apply S_shrW|(apply S_bits;(· (first|exact Or.inl rfl|exact Or.inr (Or.inl rfl)|exact Or.inr (Or.inr (Or.inl rfl))|exact Or.inr (Or.inr (Or.inr rfl)))))|apply Qk (f:=192)|apply c7|apply c18|apply c17|apply c19|exact Qa|apply Q3|(apply View.pure;exact Q4.out)|exact Jq.out|with_reducible apply Go.Av.u32_add|with_reducible apply Go.Av.u32_xor|with_reducible apply Go.Av.u32_shr3|with_reducible apply Go.Av.u32_shr10|(apply mix;first|assumption|exact rfl)|(apply mix;first|assumption|exact rfl)|(apply mlen;first|exact rfl|assumption|exact Nat.le_of_ble_eq_true rfl|omega|(simp [Q1];done)|(simp [Q1];omega))|exact Q0 rfl|exact Ql|(apply Qg;exact Q0 rfl)|assumption|omega|exact rfl|fail)
   exact U7 (i + 1) ((Jp (by repeat' (first|exact Qy|refine Qr rfl ?_)) (by repeat' (first|exact Qz|refine Qt (by first|rfl|exact congrArg (λ l=>some (Box.mk l _ _ _)) hset) ?_)) (Nat.le_refl _))).sub (by omega) (by omega)
 ·have hc:decide ((i:Int) < 64) = false:=by simp only [decide_eq_false_iff_not];omega
  obtain rfl:i = 64:=by omega
  generalize hW:wGo m 64 = W at *
  have hWl:W.length = 64:=by rw [<-hW];exact wGo_length m 64
  repeat' (first|refine Qh ?_|refine Q9 ?_|refine Ua ?_|refine Jt ?_|refine Jo ?_|refine Q8 Qc ?_|refine Qi ?_|refine Un ?_|refine Qo ?_|(apply M_loadWA;exact rfl;exact rfl;exact Q0 rfl;exact rfl;exact rfl;(· (first|assumption|exact rfl)))|(apply J9;exact rfl;(· (first|assumption|exact rfl)))|apply Qd|apply Jd|apply U0|(apply Jg;exact rfl;exact Q0 rfl;(iterate 4 exact rfl))|apply Jl (f:=193)|apply keys_cv|exact Qe.out|exact Q0 rfl|exact Ql|exact Q5 rfl rfl|assumption|exact rfl|fail)
  refine Js (α:=Nat) (λ i=>⟨[(2,.ptr 0 0 0),(4,.ptr 1 0 0),(5,.ptr 2 0 0),(11,.ptr 3 0 0),(97,arU keysL),(98,.int .i64 i)],[(0,some ⟨[arU s],8,false,false⟩),(1,some ⟨[arU [0,0,0,0,0,0,0,0]],8,false,false⟩),(2,some ⟨[arU W],64,false,false⟩),(3,some ⟨[arU (rGo W s i)],8,false,false⟩)],4⟩)
   (λ i=>64 - i) (λ i=>i<=64) 0 ?_ (by omega) ?_
  ·rw [show rGo W s 0 = s by rw [rGo]]
   exact ((Jp (by repeat' (first|exact Qy|refine Qr rfl ?_)) (by repeat' (first|exact Qz|refine Qt (by first|rfl|exact congrArg (λ l=>some (Box.mk l _ _ _)) hset) ?_)) (Nat.le_refl _))).sub
  intro i hi
  have hrl:=rGo_length W hs i
  have hrl':((rGo W s i).map u32A).length = 8:=by rw [List.length_map,hrl]
  have hix:=ix_nat i
  have hix':=ix_nat' i
  by_cases h64:i < 64
  ·have hc:decide ((i:Int) < 64) = true:=by simp only [decide_eq_true_eq];omega
   have hw1:IntKind.wrap .i64 ((i:Int) + 1) = ((i + 1:Nat):Int):=by rw [wrap_i64 (by omega) (by omega)];omega
   have gk:=arr_at u32A keysL 0 (k:=i) (by rw [keysL_length];exact h64)
   have gw:=arr_at u32A W 0 (k:=i) (by omega)
   have c0:=mixed_cv (rGo W s i) hrl (W.getD i 0) (keysL.getD i 0)
   have okm:Qs 8 (arU (mixL (rGo W s i) (W.getD i 0) (keysL.getD i 0))):=okCells_arr _ _ (mixL_length hrl _ _)
   have hst:mixL (rGo W s i) (W.getD i 0) (keysL.getD i 0) = rGo W s (i + 1):=by rw [rGo]
   rw [hst] at c0 okm
   repeat' (first|refine Qh ?_|refine Q9 ?_|refine U9 ?_|refine Q8 Qc ?_|(apply T_drawM (id:=16) 5 Qc Uw;exact rfl;exact rfl;(· kernel_rfl);exact Nat.le_of_ble_eq_true rfl)|refine Qi ?_|refine Qw ?_|refine Qo ?_|(apply M_idxAP;exact rfl;exact rfl;exact Q0 rfl;exact Q0 rfl;(· (first|assumption|exact ⟨by omega,by omega⟩));(· (apply mix;first|assumption|exact rfl)))|(apply M_indexA;exact rfl;exact rfl;exact Q0 rfl;exact Q0 rfl;(· (first|assumption|exact ⟨by omega,by omega⟩));(· (apply mix;first|assumption|exact rfl));(· (first|assumption|exact rfl));(· (first|exact ⟨rfl,rfl⟩|exact ⟨rfl,trivial⟩|assumption)))|(apply M_loadAr;exact rfl;exact Q0 rfl;exact rfl;(· (first|assumption|exact rfl));(· (first|exact ⟨rfl,rfl⟩|exact ⟨rfl,trivial⟩|assumption)))|(apply M_loadWA;exact rfl;exact rfl;exact Q0 rfl;exact rfl;exact rfl;(· (first|assumption|exact rfl)))|(apply Jf;exact rfl;(· (first|assumption|exact rfl)))|apply Qd|apply Q2|apply Jd|apply Y7|(apply Jg;exact rfl;exact Q0 rfl;(iterate 4 exact rfl))|apply Qk (f:=194)|apply c0|exact Qa|apply Q3|(apply View.pure;exact Q4.out)|exact Jq.out|exact Q0 rfl|exact Ql|(apply Qg;exact Q0 rfl)|assumption|exact rfl|fail)
   exact U7 (i + 1) ((Jp (by repeat' (first|exact Qy|refine Qr rfl ?_)) (by repeat' (first|exact Qz|refine Qt (by first|rfl|exact congrArg (λ l=>some (Box.mk l _ _ _)) hset) ?_)) (Nat.le_refl _))).sub (by omega) (by omega)
  ·have hc:decide ((i:Int) < 64) = false:=by simp only [decide_eq_false_iff_not];omega
   obtain rfl:i = 64:=by omega
   generalize hR:rGo W s 64 = R at *
   have hA:(addL R s).length = 8:=addL_length hrl hs
   repeat' (first|refine Qh ?_|refine Q9 ?_|refine Ua ?_|refine Jt ?_|refine Jo ?_|refine Q8 Qc ?_|refine Qi ?_|refine Un ?_|refine Qo ?_|(apply J9;exact rfl;(· (first|assumption|exact rfl)))|apply Qd|apply Jd|exact Q0 rfl|exact rfl|fail)
   refine Js (α:=Nat) (λ i=>⟨[(2,.ptr 0 0 0),(4,.ptr 1 0 0),(11,.ptr 3 0 0),(109,.int .i64 i)],[(0,some ⟨[arU s],8,false,false⟩),(1,some ⟨[arU [0,0,0,0,0,0,0,0]],8,false,false⟩),(3,some ⟨[arU (turnL (addL R s) R i)],8,false,false⟩)],4⟩)
    (λ i=>8 - i) (λ i=>i<=8) 0 ?_ (by omega) ?_
   ·rw [turnL_zero]
    exact ((Jp (by repeat' (first|exact Qy|refine Qr rfl ?_)) (by repeat' (first|exact Qz|refine Qt (by first|rfl|exact congrArg (λ l=>some (Box.mk l _ _ _)) hset) ?_)) (Nat.le_refl _))).sub
   intro i hi
   have htl:=turnL_length (addL R s) R hA hrl hi
   have htl':((turnL (addL R s) R i).map u32A).length = 8:=by rw [List.length_map,htl]
   have hix:=ix_nat i
   by_cases h8:i < 8
   ·have hc:decide ((i:Int) < 8) = true:=by simp only [decide_eq_true_eq];omega
    have hw1:IntKind.wrap .i64 ((i:Int) + 1) = ((i + 1:Nat):Int):=by rw [wrap_i64 (by omega) (by omega)];omega
    have g1:=arr_at u32A (turnL (addL R s) R i) 0 (k:=i) (by omega)
    rw [turnL_get _ _ _ hA hrl h8] at g1
    have g2:=arr_at u32A s 0 (k:=i) (by omega)
    have hst:((turnL (addL R s) R i).map u32A).set i (u32A (R.getD i 0 + s.getD i 0)) = (turnL (addL R s) R (i + 1)).map u32A:=by
     rw [arr_set,<-addL_get (by omega) (by omega),turnL_set _ _ _ hA hrl h8]
    repeat' (first|refine Qh ?_|refine Q9 ?_|refine U9 ?_|refine Q8 Qc ?_|(apply T_drawM (id:=21) 8 Qc Uw;exact rfl;exact rfl;(· kernel_rfl);exact Nat.le_of_ble_eq_true rfl)|refine Qi ?_|refine Qw ?_|refine Qo ?_|(apply M_idxAP;exact rfl;exact rfl;exact Q0 rfl;exact Q0 rfl;(· (first|assumption|exact ⟨by omega,by omega⟩));(· (apply mix;first|assumption|exact rfl)))|(apply M_loadAr;exact rfl;exact Q0 rfl;exact rfl;(· (first|assumption|exact rfl));(· (first|exact ⟨rfl,rfl⟩|exact ⟨rfl,trivial⟩|assumption)))|(apply M_storeAr;exact rfl;exact Q0 rfl;(iterate 4 exact rfl);exact Q0 rfl;exact rfl;exact rfl)|(apply Jf;exact rfl;(· (first|assumption|exact rfl)))|apply Qd|apply Q2|apply Jd|apply Y7|with_reducible apply Go.Av.u32_add|(apply mix;first|assumption|exact rfl)|(apply mix;first|assumption|exact rfl)|(apply mlen;first|exact rfl|assumption|exact Nat.le_of_ble_eq_true rfl|omega|(simp [Q1];done)|(simp [Q1];omega))|exact Q0 rfl|assumption|exact rfl|fail)
    exact U7 (i + 1) ((Jp (by repeat' (first|exact Qy|refine Qr rfl ?_)) (by repeat' (first|exact Qz|refine Qt (by first|rfl|exact congrArg (λ l=>some (Box.mk l _ _ _)) hset) ?_)) (Nat.le_refl _))).sub (by omega) (by omega)
   ·have hc:decide ((i:Int) < 8) = false:=by simp only [decide_eq_false_iff_not];omega
    obtain rfl:i = 8:=by omega
    have hall:=turnL_all (addL R s) R hA hrl
    rw [hall] at htl' ⊢
    have okr:Qs 8 (arU (addL R s)):=okCells_arr _ _ hA
    have hb:blockL s m = addL R s:=by rw [blockL,hW,hR,addL_comm]
    rw [hb]
    repeat' (first|refine Qh ?_|refine Q9 ?_|refine Ua ?_|refine Jt ?_|refine Jo ?_|refine Q8 Qc ?_|refine Qi ?_|refine Qu ?_|refine Un ?_|(apply E_X<;>repeat' (first|exact J4|(apply J3;exact rfl)|(apply Qx;(iterate 6 exact rfl))|(apply J5;(iterate 4 exact rfl);(· (first|assumption|exact rfl)))|(apply view_aggP;exact Qe.out)|exact Qa|apply Q3|apply Jb|(apply Uu;exact rfl;(· first|exact rfl|assumption|(simp [Q1];done)|(simp [Q1];omega)|omega);exact Q6.out)|(apply U8;exact Q6.out)|apply Uh|apply Ul|(apply View.ofEq;exact Q4.out)|exact rfl))|(apply M_loadWA;exact rfl;exact rfl;exact Q0 rfl;exact rfl;exact rfl;(· (first|assumption|exact rfl)))|(apply J9;exact rfl;(· (first|assumption|exact rfl)))|apply Jd|(apply Jg;exact rfl;exact Q0 rfl;(iterate 4 exact rfl))|exact Q0 rfl|assumption|exact rfl|fail)
end Go.Proofs.YtaolmfgpebncjaaGreat
