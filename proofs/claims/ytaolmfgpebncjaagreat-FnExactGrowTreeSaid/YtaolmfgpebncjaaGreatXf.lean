/- The digest of the specification, block by block. -/
import Derived.Test.YtaolmfgpebncjaaGreatXe
set_option maxRecDepth 100000
set_option maxHeartbeats 3200000
set_option linter.unusedSimpArgs false
set_option linter.unusedVariables false
namespace Go.Proofs.YtaolmfgpebncjaaGreat
open Go.Av
attribute [local irreducible] T thenQ Uv Y0 Uz WX retV retR Gt Gts GtsP Qs CV CR Av.Pure
attribute [local irreducible] wGo rGo shaSt mixL blockL turnL addL keysL rotr padL sha numN
theorem sum4 (a b c d:UInt32):((a.toNat:Int) + (b.toNat:Int) + (c.toNat:Int) + (d.toNat:Int)).tmod 4294967296 = ((a + b + c + d).toNat:Int):=by
 rw [Int.tmod_eq_emod_of_nonneg (by omega)]
 simp only [UInt32.toNat_add]
 omega
theorem out4_take (x:UInt32) (j:Nat) (h:j < 4):bA ((out4 x).take j)++[.int .u8 ((byteN (x.toNat >>> (24 - 8 * j))).toNat:Int)] = bA ((out4 x).take (j + 1)):=by
 have hj:j = 0∨j = 1∨j = 2∨j = 3:=by omega
 rcases hj with rfl|rfl|rfl|rfl<;>rfl
theorem four_at (q:List UInt8) {k:Nat} (h:k + 4<=q.length):(q.drop k).take 4 = [q.getD k 0,q.getD (k + 1) 0,q.getD (k + 2) 0,q.getD (k + 3) 0]:=by
 apply List.ext_getElem?
 intro i
 by_cases hi:i < 4
 ·rw [List.getElem?_take_of_lt hi,List.getElem?_drop,List.getElem?_eq_getElem (by omega)]
  have:i = 0∨i = 1∨i = 2∨i = 3:=by omega
  rcases this with rfl|rfl|rfl|rfl<;>simp [List.getD_eq_getElem?_getD,List.getElem?_eq_getElem (show k < q.length by omega),List.getElem?_eq_getElem (show k + 1 < q.length by omega),List.getElem?_eq_getElem (show k + 2 < q.length by omega),List.getElem?_eq_getElem (show k + 3 < q.length by omega)]
 ·rw [List.getElem?_eq_none (by simp;omega),List.getElem?_eq_none (by simp;omega)]
theorem drop_getD (q:List UInt8) {n k:Nat} (h:k < 64):((q.drop n).take 64).getD k 0 = q.getD (n + k) 0:=by
 rw [List.getD_eq_getElem?_getD,List.getElem?_take_of_lt h,List.getElem?_drop,List.getD_eq_getElem?_getD]
theorem specDigest_cr0 (d:List UInt8) (h:d.length<=1073741824):CR Tryz.prog 171 [sl1 (bA d)] [] 0 (Is (.sl 0 0 32 32) [(0,some ⟨bA (sha d),1,true,false⟩)] (0 + 1)):=by
 refine Us Qc Tryz.func171 (by kernel_rfl) rfl 141 rfl (by simp) [.tmp 2] rfl ?_
 intro w0 ok0 wr φ0
 have hdl:=Q1 d
 have okk:Qs 64 (arW keysL):=okCells_arr _ _ keysL_length
 have oks:Qs 8 (arW startL):=okCells_arr _ _ rfl
 have hpl:=padL_length d
 have hQ:(padL d).length<=1073741824 + 192:=by
  have:(padL d).length = d.length + 1 + padZ d.length + 8:=by unfold padL;simp [len8];omega
  rw [this];unfold padZ;omega
 have hsha:sha d = outL (shaSt (padL d) ((padL d).length / 64)):=by rw [sha]
 have c0:=λ N=>l2Message_cr d h N
 repeat' (first|refine Qh ?_|refine Q9 ?_|refine Q8 Qc ?_|refine Qi ?_|refine Qo ?_|apply Qd|apply Q2|apply U0|(apply Jg;exact rfl;exact Q0 rfl;(iterate 4 exact rfl))|apply S_callI (f:=188)|apply c0|apply Jl (f:=186)|apply l2Keys_cv|apply Jl (f:=187)|apply l2Start_cv|exact Qa|apply Q3|(apply View.pure;exact Q4.out)|exact OwnC.out|exact ownB_nil|(apply ownB_boxM;(· (apply mlen;first|exact rfl|assumption|exact Nat.le_of_ble_eq_true rfl|omega|(simp [Q1];done)|(simp [Q1];omega)));exact OwnEC.out)|exact Qe.out|(dsimp only;omega)|exact Q0 rfl|exact Ql|(apply Qg;exact Q0 rfl)|exact Q5 rfl rfl|exact rfl|fail)
 rw [hsha]
 clear hsha c0
 generalize padL d = Q at *
 generalize Q.length / 64 = nb at *
 refine Js (α:=Nat) (λ b=>⟨[(3,.ptr 0 0 0),(4,.ptr 1 0 0),(5,.sl 2 0 Q.length Q.length),(6,.int .i64 ((64 * b:Nat):Int))],[(0,some ⟨[arW keysL],64,false,false⟩),(1,some ⟨[arW (shaSt Q b)],8,false,false⟩),(2,some ⟨bA Q,1,true,false⟩)],3⟩)
  (λ b=>nb - b) (λ b=>b<=nb) 0 ?_ (by omega) ?_
 ·rw [show shaSt Q 0 = startL by rw [shaSt]]
  exact ((Jp (by repeat' (first|exact Qy|refine Qr rfl ?_)) (by repeat' (first|exact Qz|refine Qt (by first|rfl|exact congrArg (λ l=>some (Box.mk l _ _ _)) hset) ?_)) (Nat.le_refl _))).sub
 intro b hb
 have hQl:=Q1 Q
 have hstl:=shaSt_length Q b
 by_cases hbn:b < nb
 ·have hc:decide (((64 * b:Nat):Int) < (Q.length:Int)) = true:=by simp only [decide_eq_true_eq];omega
  have hwb:IntKind.wrap .i64 (((64 * b:Nat):Int) + 64) = ((64 * (b + 1):Nat):Int):=by rw [wrap_i64 (by omega) (by omega)];omega
  have hnx:shaSt Q (b + 1) = blockL (shaSt Q b) ((Q.drop (64 * b)).take 64):=by rw [shaSt]
  have hcl:((Q.drop (64 * b)).take 64).length = 64:=by rw [List.length_take,List.length_drop];omega
  have hmd:∀ k,k < 64->((Q.drop (64 * b)).take 64).getD k 0 = Q.getD (64 * b + k) 0:=λ k hk=>drop_getD Q hk
  generalize hm:(Q.drop (64 * b)).take 64 = m at *
  generalize shaSt Q b = S at *
  have hSl':(S.map w64A).length = 8:=by rw [List.length_map,hstl]
  have okz:Qs 64 (arW (List.replicate 64 0)):=okCells_arr _ _ (by simp)
  repeat' (first|refine Qh ?_|refine Q9 ?_|refine Q8 Qc ?_|refine Qi ?_|refine Qw ?_|refine Qo ?_|(apply S_buildA0 Qc;(iterate 3 exact rfl);(· apply mix;exact rfl))|(apply Jf;exact rfl;(· (first|assumption|exact rfl)))|apply Qd|apply Q2|apply Jd|(apply S_len_sl;exact rfl;exact Q0 rfl)|apply U0|(apply Jg;exact rfl;exact Q0 rfl;(iterate 4 exact rfl))|exact Q0 rfl|exact Q5 rfl rfl|exact rfl|fail)
  refine Js (α:=Nat) (λ i=>⟨[(3,.ptr 0 0 0),(4,.ptr 1 0 0),(5,.sl 2 0 Q.length Q.length),(6,.int .i64 ((64 * b:Nat):Int)),(7,.ptr 3 0 0),(8,.int .i64 i)],[(0,some ⟨[arW keysL],64,false,false⟩),(1,some ⟨[arW S],8,false,false⟩),(2,some ⟨bA Q,1,true,false⟩),(3,some ⟨[arW (wGo m i)],64,false,false⟩)],4⟩)
   (λ i=>16 - i) (λ i=>i<=16) 0 ?_ (by omega) ?_
  ·rw [show wGo m 0 = List.replicate 64 0 by rw [wGo]]
   exact ((Jp (by repeat' (first|exact Qy|refine Qr rfl ?_)) (by repeat' (first|exact Qz|refine Qt (by first|rfl|exact congrArg (λ l=>some (Box.mk l _ _ _)) hset) ?_)) (Nat.le_refl _))).sub
  intro i hi
  have hwl:((wGo m i).map w64A).length = 64:=by rw [List.length_map,wGo_length]
  have hix:=ix_nat i
  by_cases h16:i < 16
  ·have hc:decide ((i:Int) < 16) = true:=by simp only [decide_eq_true_eq];omega
   have hw1:IntKind.wrap .i64 ((i:Int) + 1) = ((i + 1:Nat):Int):=by rw [wrap_i64 (by omega) (by omega)];omega
   have e0:IntKind.wrap .i64 (4 * (i:Int)) = ((4 * i:Nat):Int):=by rw [wrap_i64 (by omega) (by omega)];omega
   have e1:IntKind.wrap .i64 (((64 * b:Nat):Int) + ((4 * i:Nat):Int)) = ((64 * b + 4 * i:Nat):Int):=by rw [wrap_i64 (by omega) (by omega)];omega
   have e2:IntKind.wrap .i64 (((64 * b + 4 * i:Nat):Int) + 4) = ((64 * b + 4 * i + 4:Nat):Int):=by rw [wrap_i64 (by omega) (by omega)];omega
   have hrg:0<=(i:Int)/\(i:Int) < ((64:Nat):Int):=⟨by omega,by omega⟩
   have hsub:List.take (64 * b + 4 * i + 4 - (64 * b + 4 * i)) (List.drop (0 + (64 * b + 4 * i)) (bA Q)) = bA [m.getD (4 * i) 0,m.getD (4 * i + 1) 0,m.getD (4 * i + 2) 0,m.getD (4 * i + 3) 0]:=by
    have h4:=four_at Q (k:=64 * b + 4 * i) (by omega)
    rw [hmd _ (by omega),hmd _ (by omega),hmd _ (by omega),hmd _ (by omega),show 64 * b + (4 * i + 1) = 64 * b + 4 * i + 1 by omega,show 64 * b + (4 * i + 2) = 64 * b + 4 * i + 2 by omega,show 64 * b + (4 * i + 3) = 64 * b + 4 * i + 3 by omega,<-h4,Nat.zero_add,Nat.add_sub_cancel_left]
    simp [bA]
   have hst:((wGo m i).map w64A).set i (w64A (word4 (m.getD (4 * i) 0) (m.getD (4 * i + 1) 0) (m.getD (4 * i + 2) 0) (m.getD (4 * i + 3) 0))) = (wGo m (i + 1)).map w64A:=by
    rw [arr_set,wGo,wordAt,if_pos h16]
   generalize m.getD (4 * i) 0 = m0 at *
   generalize m.getD (4 * i + 1) 0 = m1 at *
   generalize m.getD (4 * i + 2) 0 = m2 at *
   generalize m.getD (4 * i + 3) 0 = m3 at *
   have c0:=l1Number_cv [m0,m1,m2,m3] (by simp)
   rw [word4_num] at c0
   generalize word4 m0 m1 m2 m3 = mw at *
   repeat' (first|refine Qh ?_|refine Q9 ?_|refine U9 ?_|refine Q8 Qc ?_|refine Qi ?_|refine Qw ?_|refine Qo ?_|(apply M_idxAP;exact rfl;exact rfl;exact Q0 rfl;exact Q0 rfl;(· (first|assumption|exact ⟨by omega,by omega⟩));(· (apply mix;first|assumption|exact rfl)))|(apply M_storeAr;exact rfl;exact Q0 rfl;(iterate 4 exact rfl);exact Q0 rfl;exact rfl;exact rfl)|(apply Jf;exact rfl;(· (first|assumption|exact rfl)))|apply Qd|apply Q2|apply Jd|apply Y7|apply S_mul|(apply M_slSl;exact rfl;exact rfl;exact Q0 rfl;exact rfl;exact rfl)|apply Qk (f:=189)|apply c0|exact Qa|apply Q3|(apply view_slN;exact rfl;(· (apply mlen;first|exact rfl|assumption|exact Nat.le_of_ble_eq_true rfl|omega|(simp [Q1];done)|(simp [Q1];omega)));exact Q6.out)|(apply mtake;first|assumption|exact Ux (by first|rfl|(simp;done))|exact rfl)|exact Jq.out|(apply mlen;first|exact rfl|assumption|exact Nat.le_of_ble_eq_true rfl|omega|(simp [Q1];done)|(simp [Q1];omega))|(apply mtake;first|assumption|exact Ux (by first|rfl|(simp;done))|exact rfl)|(apply mnat;first|exact Int.toNat_natCast _|exact rfl)|(apply bd_at;exact Q0 rfl)|(apply mix;first|assumption|exact rfl)|exact Q0 rfl|exact Ql|(apply Qg;exact Q0 rfl)|assumption|omega|exact rfl|fail)
   exact U7 (i + 1) ((Jp (by repeat' (first|exact Qy|refine Qr rfl ?_)) (by repeat' (first|exact Qz|refine Qt (by first|rfl|exact congrArg (λ l=>some (Box.mk l _ _ _)) hset) ?_)) (Nat.le_refl _))).sub (by omega) (by omega)
  ·have hc:decide ((i:Int) < 16) = false:=by simp only [decide_eq_false_iff_not];omega
   obtain rfl:i = 16:=by omega
   repeat' (first|refine Qh ?_|refine Q9 ?_|refine Ua ?_|refine Jt ?_|refine Jo ?_|refine Q8 Qc ?_|refine Qi ?_|refine Un ?_|refine Qo ?_|(apply J9;exact rfl;(· (first|assumption|exact rfl)))|apply Qd|apply Q2|apply Jd|exact Q0 rfl|exact rfl|fail)
   refine Js (α:=Nat) (λ i=>⟨[(3,.ptr 0 0 0),(4,.ptr 1 0 0),(5,.sl 2 0 Q.length Q.length),(6,.int .i64 ((64 * b:Nat):Int)),(7,.ptr 3 0 0),(9,.int .i64 i)],[(0,some ⟨[arW keysL],64,false,false⟩),(1,some ⟨[arW S],8,false,false⟩),(2,some ⟨bA Q,1,true,false⟩),(3,some ⟨[arW (wGo m i)],64,false,false⟩)],4⟩)
    (λ i=>64 - i) (λ i=>16<=i/\i<=64) 16 ((Jp (by repeat' (first|exact Qy|refine Qr rfl ?_)) (by repeat' (first|exact Qz|refine Qt (by first|rfl|exact congrArg (λ l=>some (Box.mk l _ _ _)) hset) ?_)) (Nat.le_refl _))).sub (by omega) ?_
   rintro i ⟨h16',hi⟩
   have hwl:((wGo m i).map w64A).length = 64:=by rw [List.length_map,wGo_length]
   have hix:=ix_nat i
   by_cases h64:i < 64
   ·have hc:decide ((i:Int) < 64) = true:=by simp only [decide_eq_true_eq];omega
    have hw1:IntKind.wrap .i64 ((i:Int) + 1) = ((i + 1:Nat):Int):=by rw [wrap_i64 (by omega) (by omega)];omega
    have e15:IntKind.wrap .i64 ((i:Int) - 15) = ((i - 15:Nat):Int):=by rw [wrap_i64 (by omega) (by omega)];omega
    have e2:IntKind.wrap .i64 ((i:Int) - 2) = ((i - 2:Nat):Int):=by rw [wrap_i64 (by omega) (by omega)];omega
    have e7:IntKind.wrap .i64 ((i:Int) - 7) = ((i - 7:Nat):Int):=by rw [wrap_i64 (by omega) (by omega)];omega
    have e16:IntKind.wrap .i64 ((i:Int) - 16) = ((i - 16:Nat):Int):=by rw [wrap_i64 (by omega) (by omega)];omega
    have x15:=ix_nat (i - 15)
    have x2:=ix_nat (i - 2)
    have x7:=ix_nat (i - 7)
    have x16:=ix_nat (i - 16)
    have g15:=arr_at w64A (wGo m i) 0 (k:=i - 15) (by rw [wGo_length];omega)
    have g2:=arr_at w64A (wGo m i) 0 (k:=i - 2) (by rw [wGo_length];omega)
    have g7:=arr_at w64A (wGo m i) 0 (k:=i - 7) (by rw [wGo_length];omega)
    have g16:=arr_at w64A (wGo m i) 0 (k:=i - 16) (by rw [wGo_length];omega)
    have hst:((wGo m i).map w64A).set i (w64A (sig1 ((wGo m i).getD (i - 2) 0) + (wGo m i).getD (i - 7) 0 + sig0 ((wGo m i).getD (i - 15) 0) + (wGo m i).getD (i - 16) 0)) = (wGo m (i + 1)).map w64A:=by
     rw [arr_set,wGo,wordAt,if_neg (by omega)]
    unfold sig0 sig1 at hst
    generalize (wGo m i).getD (i - 15) 0 = p15 at *
    generalize (wGo m i).getD (i - 2) 0 = p2 at *
    generalize (wGo m i).getD (i - 7) 0 = p7 at *
    generalize (wGo m i).getD (i - 16) 0 = p16 at *
    have c7:=l2Rot_cv p15 7 (by decide) (by decide)
    have c18:=l2Rot_cv p15 18 (by decide) (by decide)
    have c17:=l2Rot_cv p2 17 (by decide) (by decide)
    have c19:=l2Rot_cv p2 19 (by decide) (by decide)
    have s1:=add64 (rotr p2 17 ^^^ rotr p2 19 ^^^ (p2 >>> 10)) p7
    have s2:=add64_3 (rotr p2 17 ^^^ rotr p2 19 ^^^ (p2 >>> 10)) p7 (rotr p15 7 ^^^ rotr p15 18 ^^^ (p15 >>> 3))
    have s3:=add64_4 (rotr p2 17 ^^^ rotr p2 19 ^^^ (p2 >>> 10)) p7 (rotr p15 7 ^^^ rotr p15 18 ^^^ (p15 >>> 3)) p16
    have s4:=sum4 (rotr p2 17 ^^^ rotr p2 19 ^^^ (p2 >>> 10)) p7 (rotr p15 7 ^^^ rotr p15 18 ^^^ (p15 >>> 3)) p16
    repeat' (first|refine Qh ?_|refine Q9 ?_|refine U9 ?_|refine Q8 Qc ?_|(apply T_drawM (id:=19) 16 Qc Uw;exact rfl;exact rfl;(· kernel_rfl);exact Nat.le_of_ble_eq_true rfl)|refine Qi ?_|refine Qw ?_|refine Qo ?_|(apply M_idxAP;exact rfl;exact rfl;exact Q0 rfl;exact Q0 rfl;(· (first|assumption|exact ⟨by omega,by omega⟩));(· (apply mix;first|assumption|exact rfl)))|(apply M_loadAr;exact rfl;exact Q0 rfl;exact rfl;(· (first|assumption|exact rfl));(· (first|exact ⟨rfl,rfl⟩|exact ⟨rfl,trivial⟩|assumption)))|(apply M_storeAr;exact rfl;exact Q0 rfl;(iterate 4 exact rfl);exact Q0 rfl;exact rfl;exact rfl)|(apply Jf;exact rfl;(· (first|assumption|exact rfl)))|apply Qd|apply Q2|apply Jd|apply Y7|apply S_sub|apply S_shrW|(apply S_remW;exact Q0 rfl;exact Q0 rfl;exact rfl;(· (first|exact Nat.le_of_ble_eq_true rfl|omega|decide)))|(apply S_bits;(· (first|exact Or.inl rfl|exact Or.inr (Or.inl rfl)|exact Or.inr (Or.inr (Or.inl rfl))|exact Or.inr (Or.inr (Or.inr rfl)))))|apply Qk (f:=190)|apply c7|apply c18|apply c17|apply c19|exact Qa|apply Q3|(apply View.pure;exact Q4.out)|exact Jq.out|(apply mlen;first|exact rfl|assumption|exact Nat.le_of_ble_eq_true rfl|omega|(simp [Q1];done)|(simp [Q1];omega))|with_reducible apply Go.Av.i64_xor|with_reducible apply Go.Av.i64_shr3|with_reducible apply Go.Av.i64_shr10|(apply mix;first|assumption|exact rfl)|(apply mix;first|assumption|exact rfl)|exact Q0 rfl|exact Ql|(apply Qg;exact Q0 rfl)|assumption|omega|exact rfl|fail)
    exact U7 (i + 1) ((Jp (by repeat' (first|exact Qy|refine Qr rfl ?_)) (by repeat' (first|exact Qz|refine Qt (by first|rfl|exact congrArg (λ l=>some (Box.mk l _ _ _)) hset) ?_)) (Nat.le_refl _))).sub (by omega) (by omega)
   ·have hc:decide ((i:Int) < 64) = false:=by simp only [decide_eq_false_iff_not];omega
    obtain rfl:i = 64:=by omega
    generalize hW:wGo m 64 = W at *
    have hWl:W.length = 64:=by rw [<-hW];exact wGo_length m 64
    have okS:Qs 8 (arW S):=okCells_arr _ _ hstl
    repeat' (first|refine Qh ?_|refine Q9 ?_|refine Ua ?_|refine Jt ?_|refine Jo ?_|refine Q8 Qc ?_|refine Qi ?_|refine Un ?_|refine Qo ?_|(apply M_loadWA;exact rfl;exact rfl;exact Q0 rfl;exact rfl;exact rfl;(· (first|assumption|exact rfl)))|(apply J9;exact rfl;(· (first|assumption|exact rfl)))|apply Qd|apply Q2|apply Jd|apply U0|(apply Jg;exact rfl;exact Q0 rfl;(iterate 4 exact rfl))|(dsimp only;omega)|exact Q0 rfl|exact Q5 rfl rfl|exact rfl|fail)
    refine Js (α:=Nat) (λ i=>⟨[(3,.ptr 0 0 0),(4,.ptr 1 0 0),(5,.sl 2 0 Q.length Q.length),(6,.int .i64 ((64 * b:Nat):Int)),(7,.ptr 3 0 0),(14,.ptr 4 0 0),(15,.int .i64 i)],[(0,some ⟨[arW keysL],64,false,false⟩),(1,some ⟨[arW S],8,false,false⟩),(2,some ⟨bA Q,1,true,false⟩),(3,some ⟨[arW W],64,false,false⟩),(4,some ⟨[arW (rGo W S i)],8,false,false⟩)],5⟩)
     (λ i=>64 - i) (λ i=>i<=64) 0 ?_ (by omega) ?_
    ·rw [show rGo W S 0 = S by rw [rGo]]
     exact ((Jp (by repeat' (first|exact Qy|refine Qr rfl ?_)) (by repeat' (first|exact Qz|refine Qt (by first|rfl|exact congrArg (λ l=>some (Box.mk l _ _ _)) hset) ?_)) (Nat.le_refl _))).sub
    intro i hi
    have hrl:=rGo_length W hstl i
    have hrl':((rGo W S i).map w64A).length = 8:=by rw [List.length_map,hrl]
    have hix:=ix_nat i
    by_cases h64:i < 64
    ·have hc:decide ((i:Int) < 64) = true:=by simp only [decide_eq_true_eq];omega
     have hw1:IntKind.wrap .i64 ((i:Int) + 1) = ((i + 1:Nat):Int):=by rw [wrap_i64 (by omega) (by omega)];omega
     have gk:=arr_at w64A keysL 0 (k:=i) (by rw [keysL_length];exact h64)
     have gw:=arr_at w64A W 0 (k:=i) (by omega)
     have c0:=l2Round_cv (rGo W S i) hrl (W.getD i 0) (keysL.getD i 0)
     have okm:Qs 8 (arW (mixL (rGo W S i) (W.getD i 0) (keysL.getD i 0))):=okCells_arr _ _ (mixL_length hrl _ _)
     have hst:mixL (rGo W S i) (W.getD i 0) (keysL.getD i 0) = rGo W S (i + 1):=by rw [rGo]
     rw [hst] at c0 okm
     repeat' (first|refine Qh ?_|refine Q9 ?_|refine U9 ?_|refine Q8 Qc ?_|(apply T_drawM (id:=24) 7 Qc Uw;exact rfl;exact rfl;(· kernel_rfl);exact Nat.le_of_ble_eq_true rfl)|refine Qi ?_|refine Qw ?_|refine Qo ?_|(apply M_idxAP;exact rfl;exact rfl;exact Q0 rfl;exact Q0 rfl;(· (first|assumption|exact ⟨by omega,by omega⟩));(· (apply mix;first|assumption|exact rfl)))|(apply M_loadAr;exact rfl;exact Q0 rfl;exact rfl;(· (first|assumption|exact rfl));(· (first|exact ⟨rfl,rfl⟩|exact ⟨rfl,trivial⟩|assumption)))|(apply M_loadWA;exact rfl;exact rfl;exact Q0 rfl;exact rfl;exact rfl;(· (first|assumption|exact rfl)))|(apply Jf;exact rfl;(· (first|assumption|exact rfl)))|apply Qd|apply Q2|apply Jd|apply Y7|(apply Jg;exact rfl;exact Q0 rfl;(iterate 4 exact rfl))|apply c0|apply Jl (f:=191)|exact Qe.out|(dsimp only;omega)|exact Q0 rfl|exact Ql|(apply Qg;exact Q0 rfl)|assumption|exact rfl|fail)
     exact U7 (i + 1) ((Jp (by repeat' (first|exact Qy|refine Qr rfl ?_)) (by repeat' (first|exact Qz|refine Qt (by first|rfl|exact congrArg (λ l=>some (Box.mk l _ _ _)) hset) ?_)) (Nat.le_refl _))).sub (by omega) (by omega)
    ·have hc:decide ((i:Int) < 64) = false:=by simp only [decide_eq_false_iff_not];omega
     obtain rfl:i = 64:=by omega
     generalize hR:rGo W S 64 = R at *
     have hA:(addL S R).length = 8:=addL_length hstl hrl
     repeat' (first|refine Qh ?_|refine Q9 ?_|refine Ua ?_|refine Jt ?_|refine Jo ?_|refine Q8 Qc ?_|refine Qi ?_|refine Un ?_|refine Qo ?_|(apply J9;exact rfl;(· (first|assumption|exact rfl)))|apply Qd|apply Q2|apply Jd|exact Q0 rfl|exact rfl|fail)
     refine Js (α:=Nat) (λ i=>⟨[(3,.ptr 0 0 0),(4,.ptr 1 0 0),(5,.sl 2 0 Q.length Q.length),(6,.int .i64 ((64 * b:Nat):Int)),(14,.ptr 4 0 0),(16,.int .i64 i)],[(0,some ⟨[arW keysL],64,false,false⟩),(1,some ⟨[arW (turnL (addL S R) S i)],8,false,false⟩),(2,some ⟨bA Q,1,true,false⟩),(4,some ⟨[arW R],8,false,false⟩)],5⟩)
      (λ i=>8 - i) (λ i=>i<=8) 0 ?_ (by omega) ?_
     ·rw [turnL_zero]
      exact ((Jp (by repeat' (first|exact Qy|refine Qr rfl ?_)) (by repeat' (first|exact Qz|refine Qt (by first|rfl|exact congrArg (λ l=>some (Box.mk l _ _ _)) hset) ?_)) (Nat.le_refl _))).sub
     intro i hi
     have htl:=turnL_length (addL S R) S hA hstl hi
     have htl':((turnL (addL S R) S i).map w64A).length = 8:=by rw [List.length_map,htl]
     have hix:=ix_nat i
     by_cases h8:i < 8
     ·have hc:decide ((i:Int) < 8) = true:=by simp only [decide_eq_true_eq];omega
      have hw1:IntKind.wrap .i64 ((i:Int) + 1) = ((i + 1:Nat):Int):=by rw [wrap_i64 (by omega) (by omega)];omega
      have g1:=arr_at w64A (turnL (addL S R) S i) 0 (k:=i) (by omega)
      rw [turnL_get _ _ _ hA hstl h8] at g1
      have g2:=arr_at w64A R 0 (k:=i) (by omega)
      have s1:=add64 (S.getD i 0) (R.getD i 0)
      have s2:=sum2 (S.getD i 0) (R.getD i 0)
      have hst:((turnL (addL S R) S i).map w64A).set i (w64A (S.getD i 0 + R.getD i 0)) = (turnL (addL S R) S (i + 1)).map w64A:=by
       rw [arr_set,<-addL_get (by omega) (by omega),turnL_set _ _ _ hA hstl h8]
      repeat' (first|refine Qh ?_|refine Q9 ?_|refine U9 ?_|refine Q8 Qc ?_|(apply T_drawM (id:=28) 10 Qc Uw;exact rfl;exact rfl;(· kernel_rfl);exact Nat.le_of_ble_eq_true rfl)|refine Qi ?_|refine Qw ?_|refine Qo ?_|(apply M_idxAP;exact rfl;exact rfl;exact Q0 rfl;exact Q0 rfl;(· (first|assumption|exact ⟨by omega,by omega⟩));(· (apply mix;first|assumption|exact rfl)))|(apply M_loadAr;exact rfl;exact Q0 rfl;exact rfl;(· (first|assumption|exact rfl));(· (first|exact ⟨rfl,rfl⟩|exact ⟨rfl,trivial⟩|assumption)))|(apply M_storeAr;exact rfl;exact Q0 rfl;(iterate 4 exact rfl);exact Q0 rfl;exact rfl;exact rfl)|(apply Jf;exact rfl;(· (first|assumption|exact rfl)))|apply Qd|apply Q2|apply Jd|apply Y7|(apply S_remW;exact Q0 rfl;exact Q0 rfl;exact rfl;(· (first|exact Nat.le_of_ble_eq_true rfl|omega|decide)))|(apply mlen;first|exact rfl|assumption|exact Nat.le_of_ble_eq_true rfl|omega|(simp [Q1];done)|(simp [Q1];omega))|(apply mix;first|assumption|exact rfl)|exact Q0 rfl|assumption|exact rfl|fail)
      refine U7 (i + 1) ?_ ?_ ?_
      ·exact ((Jp (by repeat' (first|exact Qy|refine Qr rfl ?_)) (by repeat' (first|exact Qz|refine Qt (by first|rfl|exact congrArg (λ l=>some (Box.mk l _ _ _)) hset) ?_)) (Nat.le_refl _))).sub
      ·omega
      ·omega
     ·have hc:decide ((i:Int) < 8) = false:=by simp only [decide_eq_false_iff_not];omega
      obtain rfl:i = 8:=by omega
      rw [turnL_all _ _ hA hstl]
      have hb':blockL S m = addL S R:=by rw [blockL,hW,hR]
      rw [<-hb',<-hnx]
      repeat' (first|refine Qh ?_|refine Q9 ?_|refine Ua ?_|refine U9 ?_|refine Jt ?_|refine Jo ?_|refine Q8 Qc ?_|refine Qi ?_|refine Un ?_|(apply J9;exact rfl;(· (first|assumption|exact rfl)))|apply Qd|apply Q2|apply Jd|apply Y7|exact Q0 rfl|assumption|exact rfl|fail)
      exact U7 (b + 1) (sub_names [(0,0),(1,1),(2,2)] (k0:=0) rfl (by rfl) (by repeat' (first|exact pullE_nil|(apply Yl;exact rfl)|exact Ren.sl _ _ _ _|(apply Ub;(· first|exact rfl|omega);(· first|exact rfl|assumption|(simp [Q1];done)|(simp [Q1];omega));(· first|exact rfl|assumption|(simp [Q1];done)|(simp [Q1];omega)))|exact Ren.ptr _ _ _|(apply Ren.pure;(first|exact Q4.out|exact Qe.out|assumption))|exact Qf|apply Q7|apply Qm|apply Qv)) (by repeat' (first|exact Ji|(apply Yj;(· first|exact rfl|exact congrArg (λ l=>some (Box.mk l _ _ _)) hset);(· (exact Q6.out)))|(apply Jh;exact rfl)|exact Qf|apply Q7|exact Ren.sl _ _ _ _|exact Ren.ptr _ _ _|(apply Ren.pure;(first|exact Q4.out|exact Qe.out|assumption))|apply Qm)) (by repeat' (first|exact lowE_nil|apply Ye|exact Low.sl _ _ _ _ (by decide)|exact Low.ptr _ _ _ (by decide)|(apply Low.pure;(first|exact Q4.out|exact Qe.out|assumption))|exact J0|apply Qq|apply U3|apply U2)) (by repeat' (first|exact Jc|apply J1|(apply Uf.low;(exact Q6.out))|apply Ju|exact Jv|exact J0|apply Qq|exact Low.sl _ _ _ _ (by decide)|exact Low.ptr _ _ _ (by decide)|(apply Low.pure;(first|exact Q4.out|exact Qe.out|assumption))))) (by omega) (by omega)
 ·have hc:decide (((64 * b:Nat):Int) < (Q.length:Int)) = false:=by simp only [decide_eq_false_iff_not];omega
  obtain rfl:b = nb:=by omega
  generalize shaSt Q b = S at *
  have hSl':(S.map w64A).length = 8:=by rw [List.length_map,hstl]
  repeat' (first|refine Qh ?_|refine Q9 ?_|refine Ua ?_|refine Jt ?_|refine Jo ?_|refine Q8 Qc ?_|refine Qi ?_|refine Un ?_|refine Qo ?_|(apply J9;exact rfl;(· (first|assumption|exact rfl)))|apply Qd|apply Q2|apply Jd|(apply S_len_sl;exact rfl;exact Q0 rfl)|(apply S_buildL Qc;(iterate 3 exact rfl))|(dsimp only;omega)|exact U4|exact Uc|exact Q0 rfl|exact rfl|fail)
  refine Js (α:=Nat) (λ i=>⟨[(4,.ptr 0 0 0),(17,.sl 1 0 (4 * i) (4 * i)),(18,.int .i64 i)],[(0,some ⟨[arW S],8,false,false⟩),(1,some ⟨bA (outL (S.take i)),1,true,false⟩)],2⟩)
   (λ i=>8 - i) (λ i=>i<=8) 0 ?_ (by omega) ?_
  ·rw [show bA (outL (S.take 0)) = [] by simp [outL,bA]]
   exact (sub_names [(0,1),(1,3)] (k0:=0) rfl (by rfl) (by repeat' (first|exact pullE_nil|(apply Yl;exact rfl)|exact Ren.sl _ _ _ _|(apply Ub;(· first|exact rfl|omega);(· first|exact rfl|assumption|(simp [Q1];done)|(simp [Q1];omega));(· first|exact rfl|assumption|(simp [Q1];done)|(simp [Q1];omega)))|exact Ren.ptr _ _ _|(apply Ren.pure;(first|exact Q4.out|exact Qe.out|assumption))|exact Qf|apply Q7|apply Qm|apply Qv)) (by repeat' (first|exact Ji|(apply Yj;(· first|exact rfl|exact congrArg (λ l=>some (Box.mk l _ _ _)) hset);(· (exact Q6.out)))|(apply Jh;exact rfl)|exact Qf|apply Q7|exact Ren.sl _ _ _ _|exact Ren.ptr _ _ _|(apply Ren.pure;(first|exact Q4.out|exact Qe.out|assumption))|apply Qm)) (by repeat' (first|exact lowE_nil|apply Ye|exact Low.sl _ _ _ _ (by decide)|exact Low.ptr _ _ _ (by decide)|(apply Low.pure;(first|exact Q4.out|exact Qe.out|assumption))|exact J0|apply Qq|apply U3|apply U2)) (by repeat' (first|exact Jc|apply J1|(apply Uf.low;(exact Q6.out))|apply Ju|exact Jv|exact J0|apply Qq|exact Low.sl _ _ _ _ (by decide)|exact Low.ptr _ _ _ (by decide)|(apply Low.pure;(first|exact Q4.out|exact Qe.out|assumption)))))
  intro i hi
  have hix:=ix_nat i
  have hol:(bA (outL (S.take i))).length = 4 * i:=by rw [Q1,outL_length,List.length_take];omega
  by_cases h8:i < 8
  ·have hc:decide ((i:Int) < 8) = true:=by simp only [decide_eq_true_eq];omega
   have hw1:IntKind.wrap .i64 ((i:Int) + 1) = ((i + 1:Nat):Int):=by rw [wrap_i64 (by omega) (by omega)];omega
   have g1:=arr_at w64A S 0 (k:=i) (by omega)
   have hset0:=outL_take S (i:=i) (by omega)
   have hset1:bA (outL (S.take i))++bA ((out4 (S.getD i 0)).take 4) = bA (outL (S.take (i + 1))):=hset0
   generalize S.getD i 0 = x at *
   repeat' (first|refine Qh ?_|refine Q9 ?_|refine Q8 Qc ?_|refine Qi ?_|refine Qw ?_|refine Qo ?_|(apply Jf;exact rfl;(· (first|assumption|exact rfl)))|apply Qd|apply Q2|apply Jd|exact Q0 rfl|exact rfl|fail)
   refine Js (α:=Nat) (λ j=>⟨[(4,.ptr 0 0 0),(17,.sl 1 0 (4 * i + j) (4 * i + j)),(18,.int .i64 i),(19,.int .i64 (3 - (j:Int)))],[(0,some ⟨[arW S],8,false,false⟩),(1,some ⟨bA (outL (S.take i))++bA ((out4 x).take j),1,true,false⟩)],2⟩)
    (λ j=>4 - j) (λ j=>j<=4) 0 ?_ (by omega) ?_
   ·rw [show bA (outL (S.take i))++bA ((out4 x).take 0) = bA (outL (S.take i)) by simp [bA]]
    exact ((Jp (by repeat' (first|exact Qy|refine Qr rfl ?_)) (by repeat' (first|exact Qz|refine Qt (by first|rfl|exact congrArg (λ l=>some (Box.mk l _ _ _)) hset) ?_)) (Nat.le_refl _))).sub
   intro j hj
   have h4l:((out4 x).take j).length = j:=by rw [List.length_take];exact Nat.min_eq_left hj
   have hjl:(bA (outL (S.take i))++bA ((out4 x).take j)).length = 4 * i + j:=by rw [List.length_append,hol,Q1,h4l]
   by_cases hj4:j < 4
   ·have hc:decide ((0:Int)<=3 - (j:Int)) = true:=by simp;omega
    have w1:IntKind.wrap .i64 (8 * (3 - (j:Int))) = 8 * (3 - (j:Int)):=wrap_i64 (by omega) (by omega)
    have w2:IntKind.wrap .u64 (8 * (3 - (j:Int))) = 8 * (3 - (j:Int)):=wrap_u64 (by omega) (by omega)
    have hs:((x.toNat:Int)).fdiv (2 ^ min (8 * (3 - (j:Int))).toNat IntKind.i64.bits) = ((x.toNat >>> (24 - 8 * j):Nat):Int):=by
     rw [show (8 * (3 - (j:Int))).toNat = 24 - 8 * j by omega,show IntKind.i64.bits = 64 from rfl,Nat.min_eq_left (by omega),fdiv_pow]
    have hw:=byteN_wrap (x.toNat >>> (24 - 8 * j))
    have hd:IntKind.wrap .i64 ((3:Int) - (j:Int) - 1) = 3 - ((j + 1:Nat):Int):=by rw [wrap_i64 (by omega) (by omega)];omega
    have hset:(bA (outL (S.take i))++bA ((out4 x).take j))++[.int .u8 ((byteN (x.toNat >>> (24 - 8 * j))).toNat:Int)] = bA (outL (S.take i))++bA ((out4 x).take (j + 1)):=by
     rw [List.append_assoc,out4_take x j hj4]
    repeat' (first|refine Qh ?_|refine Q9 ?_|refine U9 ?_|refine Q8 Qc ?_|refine Qi ?_|refine Qw ?_|refine Qo ?_|(apply M_idxAP;exact rfl;exact rfl;exact Q0 rfl;exact Q0 rfl;(· (first|assumption|exact ⟨by omega,by omega⟩));(· (apply mix;first|assumption|exact rfl)))|(apply M_loadAr;exact rfl;exact Q0 rfl;exact rfl;(· (first|assumption|exact rfl));(· (first|exact ⟨rfl,rfl⟩|exact ⟨rfl,trivial⟩|assumption)))|(apply Jf;exact rfl;(· (first|assumption|exact rfl)))|apply Qd|apply Q2|apply S_geq|apply S_sub|apply S_mul|(apply S_conv;exact rfl;exact rfl;exact Q0 rfl)|apply S_shrW|(apply M_appB;exact rfl;exact rfl;exact Q0 rfl)|(apply S_buildL Qc;(iterate 3 exact rfl))|(apply mtake;first|assumption|exact Ux (by first|rfl|(simp;done))|exact rfl)|(apply mlen;first|exact rfl|assumption|exact Nat.le_of_ble_eq_true rfl|omega|(simp [Q1];done)|(simp [Q1];omega))|(apply msz;first|assumption|exact Nat.le_of_ble_eq_true rfl|(dsimp only;simp only [List.length_append,List.length_map,List.length_cons,List.length_nil,Q1,List.length_take,List.length_drop,List.length_replicate] at *;omega)|(dsimp only;omega))|(apply mnorm;first|with_reducible exact app_nil0 _|exact app_norm _ _|exact rfl)|(apply mtake;first|assumption|exact Ux (by first|rfl|(simp;done))|exact rfl)|(apply src_sl;(iterate 3 exact rfl))|(dsimp only;omega)|exact U4|(apply Ug;exact Q0 rfl)|exact Uc|apply Uq|(intro hu;cases hu;done)|exact Q0 rfl|exact Q5 rfl rfl|assumption|omega|exact rfl|fail)
    exact U7 (j + 1) (sub_names [(0,0),(1,3)] (k0:=0) rfl (by rfl) (by repeat' (first|exact pullE_nil|(apply Yl;exact rfl)|exact Ren.sl _ _ _ _|(apply Ub;(· first|exact rfl|omega);(· first|exact rfl|assumption|(simp [Q1];done)|(simp [Q1];omega));(· first|exact rfl|assumption|(simp [Q1];done)|(simp [Q1];omega)))|exact Ren.ptr _ _ _|(apply Ren.pure;(first|exact Q4.out|exact Qe.out|assumption))|exact Qf|apply Q7|apply Qm|apply Qv)) (by repeat' (first|exact Ji|(apply Yj;(· first|exact rfl|exact congrArg (λ l=>some (Box.mk l _ _ _)) hset);(· (exact Q6.out)))|(apply Jh;exact rfl)|exact Qf|apply Q7|exact Ren.sl _ _ _ _|exact Ren.ptr _ _ _|(apply Ren.pure;(first|exact Q4.out|exact Qe.out|assumption))|apply Qm)) (by repeat' (first|exact lowE_nil|apply Ye|exact Low.sl _ _ _ _ (by decide)|exact Low.ptr _ _ _ (by decide)|(apply Low.pure;(first|exact Q4.out|exact Qe.out|assumption))|exact J0|apply Qq|apply U3|apply U2)) (by repeat' (first|exact Jc|apply J1|(apply Uf.low;(exact Q6.out))|apply Ju|exact Jv|exact J0|apply Qq|exact Low.sl _ _ _ _ (by decide)|exact Low.ptr _ _ _ (by decide)|(apply Low.pure;(first|exact Q4.out|exact Qe.out|assumption))))) (by omega) (by omega)
   ·have hc:decide ((0:Int)<=3 - (j:Int)) = false:=by simp;omega
    obtain rfl:j = 4:=by omega
    rw [hset1]
    repeat' (first|refine Qh ?_|refine Q9 ?_|refine Ua ?_|refine U9 ?_|refine Jt ?_|refine Jo ?_|refine Q8 Qc ?_|refine Qi ?_|refine Un ?_|(apply J9;exact rfl;(· (first|assumption|exact rfl)))|apply Qd|apply Q2|apply S_geq|apply Y7|exact Q0 rfl|assumption|exact rfl|fail)
    exact U7 (i + 1) ((Jp (by repeat' (first|exact Qy|refine Qr rfl ?_)) (by repeat' (first|exact Qz|refine Qt (by first|rfl|exact congrArg (λ l=>some (Box.mk l _ _ _)) hset) ?_)) (Nat.le_refl _))).sub (by omega) (by omega)
  ·have hc:decide ((i:Int) < 8) = false:=by simp only [decide_eq_false_iff_not];omega
   obtain rfl:i = 8:=by omega
   rw [List.take_of_length_le (by omega)]
   repeat' (first|refine Qh ?_|refine Q9 ?_|refine Ua ?_|refine Jt ?_|refine Jo ?_|refine Q8 Qc ?_|refine Qi ?_|refine Qu ?_|refine Un ?_|(apply J9;exact rfl;(· (first|assumption|exact rfl)))|apply Qd|apply Q2|apply Jd|exact Q0 rfl|exact rfl|fail)
   (apply E_U0 [(0,1)]<;>repeat' (first|exact J4|(apply J3;exact rfl)|(apply Qx;(iterate 6 exact rfl))|(apply J5;(iterate 4 exact rfl);(· (first|assumption|exact rfl)))|exact Ren.sl _ _ _ _|(apply Ub;(· first|exact rfl|omega);(· first|exact rfl|assumption|(simp [Q1];done)|(simp [Q1];omega));(· first|exact rfl|assumption|(simp [Q1];done)|(simp [Q1];omega)))|exact Ren.ptr _ _ _|exact Qf|apply Q7|(apply Ren.pure;exact Q4.out)|apply Qm|apply Qv|exact Low.sl _ _ _ _ (by decide)|exact Low.ptr _ _ _ (by decide)|exact J0|apply Qq|(apply Low.pure;exact Q4.out)|apply U3|apply U2|exact Ji|(apply Jx;exact rfl;(· first|exact rfl|assumption|(simp [bA];done));exact Q6.out)|(apply Jh;exact rfl)|exact Jc|apply J1|(apply Uf.low;exact Q6.out)|apply Ju|exact Jv|exact rfl))
theorem specDigest_cr (d:List UInt8) (h:d.length<=1073741824) (N:Nat):CR Tryz.prog 171 [sl1 (bA d)] [] N (Is (.sl N 0 32 32) [(N,some ⟨bA (sha d),1,true,false⟩)] (N + 1)) :=
 CR.allN (specDigest_cr0 d h) N (by first|exact Q4.out|exact Qe.out|assumption) (by repeat' (first|exact Ren.sl _ _ _ _|exact Ren.ptr _ _ _|exact Qf|apply Q7|(apply Ren.pure;(first|exact Q4.out|exact Qe.out|assumption))|apply Qm|apply Qv)) (by repeat' (first|exact Jn|(apply Ja;exact rfl;(· (exact Q6.out)))|(apply Jm;exact rfl)|exact Qf|apply Q7|exact Ren.sl _ _ _ _|exact Ren.ptr _ _ _|(apply Ren.pure;(first|exact Q4.out|exact Qe.out|assumption))|apply Qm))
end Go.Proofs.YtaolmfgpebncjaaGreat
