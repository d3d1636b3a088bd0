/- Words that are mixed, told in 64 bits; what is digested. -/
import Derived.Test.YtaolmfgpebncjaaGreatWt
import Derived.Test.YtaolmfgpebncjaaGreatXa
set_option maxRecDepth 100000
set_option maxHeartbeats 3200000
set_option linter.unusedSimpArgs false
set_option linter.unusedVariables false
namespace Go.Proofs.YtaolmfgpebncjaaGreat
open Go.Av
attribute [local irreducible] T thenQ Uv Y0 Uz WX retV retR Gt Gts GtsP Qs CV CR Av.Pure
def numN (bs:List UInt8):Nat:=bs.foldl (λ n b=>n * 256 + b.toNat) 0
theorem numN_snoc (bs:List UInt8) (b:UInt8):numN (bs++[b]) = numN bs * 256 + b.toNat:=by simp [numN,List.foldl_append]
theorem numN_go:∀ (bs:List UInt8) (n:Nat),bs.foldl (λ n b=>n * 256 + b.toNat) n < (n + 1) * 256 ^ bs.length
 | [],n=>by simp
 | b::bs,n=>by
   have hb:=UInt8.toNat_lt b
   have ih:=numN_go bs (n * 256 + b.toNat)
   rw [List.foldl_cons,List.length_cons,Nat.pow_succ]
   have h1:n * 256 + b.toNat + 1<=(n + 1) * 256:=by omega
   have h2:=Nat.mul_le_mul_right (256 ^ bs.length) h1
   have h3:(n + 1) * 256 * 256 ^ bs.length = (n + 1) * (256 ^ bs.length * 256):=by rw [Nat.mul_assoc,Nat.mul_comm 256]
   omega
theorem numN_lt (bs:List UInt8):numN bs < 256 ^ bs.length:=by
 have:=numN_go bs 0
 rw [Nat.zero_add,Nat.one_mul] at this
 exact this
theorem numN_take (bs:List UInt8) {k:Nat} (h:k < bs.length):numN (bs.take (k + 1)) = numN (bs.take k) * 256 + (bs.getD k 0).toNat:=by
 rw [show bs.take (k + 1) = bs.take k++[bs.getD k 0] by rw [List.take_add_one,List.getElem?_eq_getElem h,List.getD_eq_getElem?_getD,List.getElem?_eq_getElem h];rfl,numN_snoc]
theorem l1Number_cv (bs:List UInt8) (h:bs.length<=7):CV Tryz.prog 189 [sl1 (bA bs)] (· = .int .i64 (numN bs:Int)):=by
 refine J7 Qc Tryz.func189 (by kernel_rfl) rfl 20 rfl (by simp) [.tmp 2] rfl ?_
 intro w0 ok0
 have hl:=Q1 bs
 repeat' (first|refine Qh ?_|refine Q9 ?_|refine Q8 Qc ?_|refine Qi ?_|refine Qo ?_|apply Q2|exact Q0 rfl|exact rfl|fail)
 refine Js (α:=Nat) (λ k=>⟨[(0,sl1 (bA bs)),(3,.int .i64 (numN (bs.take k):Int)),(4,.int .i64 k)],[],0⟩)
  (λ k=>bs.length - k) (λ k=>k<=bs.length) 0 ((Jp (by repeat' (first|exact Qy|refine Qr rfl ?_)) (by repeat' (first|exact Qz|refine Qt (by first|rfl|exact congrArg (λ l=>some (Box.mk l _ _ _)) hset) ?_)) (Nat.le_refl _))).sub (by omega) ?_
 intro k hk
 by_cases hkl:k < bs.length
 ·have hc:decide ((k:Int) < ((bA bs).length:Int)) = true:=by simp only [decide_eq_true_eq];omega
  have hget:=bA_getD bs hkl
  have hn:=numN_lt (bs.take k)
  have hn':256 ^ (bs.take k).length<=256 ^ 6:=Nat.pow_le_pow_right (by decide) (by rw [List.length_take];omega)
  have hs:=numN_take bs hkl
  have hbt:=UInt8.toNat_lt (bs.getD k 0)
  have w1:IntKind.wrap .i64 ((numN (bs.take k):Int) * 256) = ((numN (bs.take k) * 256:Nat):Int):=by rw [wrap_i64 (by omega) (by omega)];omega
  have w2:IntKind.wrap .i64 (((bs.getD k 0).toNat:Int)) = ((bs.getD k 0).toNat:Int):=wrap_i64 (by omega) (by omega)
  have w3:IntKind.wrap .i64 (((numN (bs.take k) * 256:Nat):Int) + ((bs.getD k 0).toNat:Int)) = (numN (bs.take (k + 1)):Int):=by rw [hs,wrap_i64 (by omega) (by omega)];omega
  have w4:IntKind.wrap .i64 ((k:Int) + 1) = ((k + 1:Nat):Int):=by rw [wrap_i64 (by omega) (by omega)];omega
  repeat' (first|refine Qh ?_|refine Q9 ?_|refine U9 ?_|refine Q8 Qc ?_|refine Qi ?_|refine Qw ?_|refine Qo ?_|(apply Jf;exact rfl;(· (first|assumption|exact rfl)))|apply Qd|apply Q2|(apply Ue;exact rfl;exact Q0 rfl;exact rfl;(· (first|exact ⟨rfl,rfl⟩|exact ⟨rfl,trivial⟩|assumption)))|apply Jd|apply Y7|apply S_mul|(apply S_conv;exact rfl;exact rfl;exact Q0 rfl)|(apply Qp;exact rfl;exact Q0 rfl)|(apply Jk;exact rfl;exact rfl;exact Q0 rfl;exact Q0 rfl)|exact Q0 rfl|assumption|(refine ⟨?_,?_⟩<;>omega)|exact rfl|fail)
  exact U7 (k + 1) ((Jp (by repeat' (first|exact Qy|refine Qr rfl ?_)) (by repeat' (first|exact Qz|refine Qt (by first|rfl|exact congrArg (λ l=>some (Box.mk l _ _ _)) hset) ?_)) (Nat.le_refl _))).sub (by omega) (by omega)
 ·have hc:decide ((k:Int) < ((bA bs).length:Int)) = false:=by simp only [decide_eq_false_iff_not];omega
  obtain rfl:k = bs.length:=by omega
  rw [List.take_length]
  repeat' (first|refine Qh ?_|refine Q9 ?_|refine Ua ?_|refine Jt ?_|refine Jo ?_|refine Q8 Qc ?_|refine Qi ?_|refine Qu ?_|refine Un ?_|(apply Jr;exact rfl;(· (repeat' (first|exact Qb _ _|exact Qj _|exact Qn _);done)))|(apply J9;exact rfl;(· (first|assumption|exact rfl)))|apply Qd|apply Q2|apply Jd|(apply Qp;exact rfl;exact Q0 rfl)|exact Q0 rfl|exact rfl|fail)
theorem or_add (a b k:Nat) (h:b < 2 ^ k):a * 2 ^ k ||| b = a * 2 ^ k + b:=by
 rw [<-Nat.shiftLeft_eq,Nat.shiftLeft_add_eq_or_of_lt h]
theorem word4_num (a b c d:UInt8):numN [a,b,c,d] = (word4 a b c d).toNat:=by
 have ha:=UInt8.toNat_lt a
 have hb:=UInt8.toNat_lt b
 have hc:=UInt8.toNat_lt c
 have hd:=UInt8.toNat_lt d
 unfold word4
 simp only [UInt32.toNat_or,UInt32.toNat_shiftLeft,UInt8.toNat_toUInt32]
 rw [show (24:UInt32).toNat % 32 = 24 from rfl,show (16:UInt32).toNat % 32 = 16 from rfl,show (8:UInt32).toNat % 32 = 8 from rfl]
 simp only [Nat.shiftLeft_eq]
 rw [Nat.mod_eq_of_lt (a:=a.toNat * 2 ^ 24) (by omega),Nat.mod_eq_of_lt (a:=b.toNat * 2 ^ 16) (by omega),Nat.mod_eq_of_lt (a:=c.toNat * 2 ^ 8) (by omega)]
 rw [Nat.or_assoc,Nat.or_assoc,or_add c.toNat _ 8 (by omega),or_add b.toNat _ 16 (by omega),or_add a.toNat _ 24 (by omega)]
 simp [numN]
 omega
end Go.Proofs.YtaolmfgpebncjaaGreat
set_option maxRecDepth 100000
set_option maxHeartbeats 3200000
set_option linter.unusedSimpArgs false
set_option linter.unusedVariables false
namespace Go.Proofs.YtaolmfgpebncjaaGreat
open Go.Av
attribute [local irreducible] T thenQ Uv Y0 Uz WX retV retR Gt Gts GtsP Qs CV CR Av.Pure
theorem l2Rot_cv (x:UInt32) (n:Nat) (h0:2<=n) (h1:n < 32):CV Tryz.prog 190 [w64A x,.int .u64 (n:Int)] (· = w64A (rotr x n)):=by
 refine J7 Qc Tryz.func190 (by kernel_rfl) rfl 14 rfl (by simp) [.tmp 4] rfl ?_
 intro w0 ok0
 have hb:IntKind.i64.bits = 64:=rfl
 have f1:(x.toNat:Int).fdiv (2 ^ min ((n:Int)).toNat IntKind.i64.bits) = (x.toNat:Int).fdiv (2 ^ n):=by
  rw [Int.toNat_natCast,hb,Nat.min_eq_left (by omega)]
 have f2:IntKind.wrap .u64 (32 - (n:Int)) = 32 - (n:Int):=wrap_u64 (by omega) (by omega)
 have f3:IntKind.wrap .i64 ((x.toNat:Int) * 2 ^ min ((32:Int) - (n:Int)).toNat IntKind.i64.bits) = IntKind.wrap .i64 ((x.toNat:Int) * 2 ^ (32 - n)):=by
  rw [show ((32:Int) - (n:Int)).toNat = 32 - n by omega,hb,Nat.min_eq_left (by omega)]
 have f4:=rot64 x n h0 h1
 repeat' (first|refine Qh ?_|refine Q9 ?_|refine Q8 Qc ?_|refine Qi ?_|refine Qu ?_|(apply Jr;exact rfl;(· (repeat' (first|exact Qb _ _|exact Qj _|exact Qn _);done)))|apply Qd|apply Q2|apply S_sub|apply S_shlW|apply S_shrW|(apply S_remW;exact Q0 rfl;exact Q0 rfl;exact rfl;(· (first|exact Nat.le_of_ble_eq_true rfl|omega|decide)))|(apply S_bits;(· (first|exact Or.inl rfl|exact Or.inr (Or.inl rfl)|exact Or.inr (Or.inr (Or.inl rfl))|exact Or.inr (Or.inr (Or.inr rfl)))))|exact Q0 rfl|assumption|omega|exact rfl|fail)
theorem l2Not_cv (x:UInt32):CV Tryz.prog 198 [w64A x] (· = w64A (~~~x)):=by
 refine J7 Qc Tryz.func198 (by kernel_rfl) rfl 5 rfl (by simp) [.tmp 2] rfl ?_
 intro w0 ok0
 repeat' (first|refine Qh ?_|refine Q9 ?_|refine Q8 Qc ?_|refine Qi ?_|refine Qu ?_|(apply Jr;exact rfl;(· (repeat' (first|exact Qb _ _|exact Qj _|exact Qn _);done)))|apply Qd|apply Q2|apply S_sub|with_reducible apply Go.Av.not64|exact Q0 rfl|exact rfl|fail)
theorem sum5 (a b c d e:UInt32):((a.toNat:Int) + (b.toNat:Int) + (c.toNat:Int) + (d.toNat:Int) + (e.toNat:Int)).tmod 4294967296 = ((a + b + c + d + e).toNat:Int):=by
 rw [Int.tmod_eq_emod_of_nonneg (by omega)]
 simp only [UInt32.toNat_add]
 omega
theorem sum2 (a b:UInt32):((a.toNat:Int) + (b.toNat:Int)).tmod 4294967296 = ((a + b).toNat:Int):=by
 rw [Int.tmod_eq_emod_of_nonneg (by omega)]
 simp only [UInt32.toNat_add]
 omega
theorem add64 (a b:UInt32):IntKind.wrap .i64 ((a.toNat:Int) + (b.toNat:Int)) = (a.toNat:Int) + (b.toNat:Int):=by
 have:=u32_lt a
 have:=u32_lt b
 exact wrap_i64 (by omega) (by omega)
theorem add64_3 (a b c:UInt32):IntKind.wrap .i64 ((a.toNat:Int) + (b.toNat:Int) + (c.toNat:Int)) = (a.toNat:Int) + (b.toNat:Int) + (c.toNat:Int):=by
 have:=u32_lt a
 have:=u32_lt b
 have:=u32_lt c
 exact wrap_i64 (by omega) (by omega)
theorem add64_4 (a b c d:UInt32):IntKind.wrap .i64 ((a.toNat:Int) + (b.toNat:Int) + (c.toNat:Int) + (d.toNat:Int)) = (a.toNat:Int) + (b.toNat:Int) + (c.toNat:Int) + (d.toNat:Int):=by
 have:=u32_lt a
 have:=u32_lt b
 have:=u32_lt c
 have:=u32_lt d
 exact wrap_i64 (by omega) (by omega)
theorem add64_5 (a b c d e:UInt32):IntKind.wrap .i64 ((a.toNat:Int) + (b.toNat:Int) + (c.toNat:Int) + (d.toNat:Int) + (e.toNat:Int)) = (a.toNat:Int) + (b.toNat:Int) + (c.toNat:Int) + (d.toNat:Int) + (e.toNat:Int):=by
 have:=u32_lt a
 have:=u32_lt b
 have:=u32_lt c
 have:=u32_lt d
 have:=u32_lt e
 exact wrap_i64 (by omega) (by omega)
theorem l2Round_cv (l:List UInt32) (hl:l.length = 8) (w k:UInt32):CV Tryz.prog 191 [arW l,w64A w,w64A k] (· = arW (mixL l w k)):=by
 obtain ⟨a,b,c,d,e,f,g,h,rfl⟩:=list8 hl
 refine J7 Qc Tryz.func191 (by kernel_rfl) rfl 95 rfl (by simp) [.cell 6 187] rfl ?_
 intro w0 ok0
 have c6:=l2Rot_cv e 6 (by decide) (by decide)
 have c11:=l2Rot_cv e 11 (by decide) (by decide)
 have c25:=l2Rot_cv e 25 (by decide) (by decide)
 have c2:=l2Rot_cv a 2 (by decide) (by decide)
 have c13:=l2Rot_cv a 13 (by decide) (by decide)
 have c22:=l2Rot_cv a 22 (by decide) (by decide)
 have n0:=l2Not_cv e
 have okk:Qs 8 (arW [a,b,c,d,e,f,g,h]):=okCells_arr _ _ rfl
 have s1:=add64 h (rotr e 6 ^^^ rotr e 11 ^^^ rotr e 25)
 have s2:=add64_3 h (rotr e 6 ^^^ rotr e 11 ^^^ rotr e 25) ((e &&& f) ^^^ (~~~e &&& g))
 have s3:=add64_4 h (rotr e 6 ^^^ rotr e 11 ^^^ rotr e 25) ((e &&& f) ^^^ (~~~e &&& g)) k
 have s4:=add64_5 h (rotr e 6 ^^^ rotr e 11 ^^^ rotr e 25) ((e &&& f) ^^^ (~~~e &&& g)) k w
 have s5:=sum5 h (rotr e 6 ^^^ rotr e 11 ^^^ rotr e 25) ((e &&& f) ^^^ (~~~e &&& g)) k w
 have u1:=add64 (rotr a 2 ^^^ rotr a 13 ^^^ rotr a 22) ((a &&& b) ^^^ (a &&& c) ^^^ (b &&& c))
 have u2:=sum2 (rotr a 2 ^^^ rotr a 13 ^^^ rotr a 22) ((a &&& b) ^^^ (a &&& c) ^^^ (b &&& c))
 have v1:=add64 (h + (rotr e 6 ^^^ rotr e 11 ^^^ rotr e 25) + ((e &&& f) ^^^ (~~~e &&& g)) + k + w) ((rotr a 2 ^^^ rotr a 13 ^^^ rotr a 22) + ((a &&& b) ^^^ (a &&& c) ^^^ (b &&& c)))
 have v2:=sum2 (h + (rotr e 6 ^^^ rotr e 11 ^^^ rotr e 25) + ((e &&& f) ^^^ (~~~e &&& g)) + k + w) ((rotr a 2 ^^^ rotr a 13 ^^^ rotr a 22) + ((a &&& b) ^^^ (a &&& c) ^^^ (b &&& c)))
 have v3:=add64 d (h + (rotr e 6 ^^^ rotr e 11 ^^^ rotr e 25) + ((e &&& f) ^^^ (~~~e &&& g)) + k + w)
 have v4:=sum2 d (h + (rotr e 6 ^^^ rotr e 11 ^^^ rotr e 25) + ((e &&& f) ^^^ (~~~e &&& g)) + k + w)
 repeat' (first|refine Qh ?_|refine Q9 ?_|refine Q8 Qc ?_|(apply Ur Qc Uw;(· kernel_rfl))|refine Qi ?_|refine Qu ?_|(apply E_X<;>repeat' (first|exact J4|(apply J3;exact rfl)|(apply Qx;(iterate 6 exact rfl))|(apply J5;(iterate 4 exact rfl);(· (first|assumption|exact rfl)))|(apply view_aggP;exact Qe.out)|exact Qa|apply Q3|apply Jb|(apply Uu;exact rfl;(· first|exact rfl|assumption|(simp [Q1];done)|(simp [Q1];omega)|omega);exact Q6.out)|(apply U8;exact Q6.out)|apply Uh|apply Ul|(apply View.ofEq;exact Q4.out)|exact rfl))|(apply M_idxAP;exact rfl;exact rfl;exact Q0 rfl;exact Q0 rfl;(· (first|assumption|exact ⟨by omega,by omega⟩));(· (apply mix;first|assumption|exact rfl)))|(apply M_loadAr;exact rfl;exact Q0 rfl;exact rfl;(· (first|assumption|exact rfl));(· (first|exact ⟨rfl,rfl⟩|exact ⟨rfl,trivial⟩|assumption)))|(apply S_buildAL Qc;(iterate 4 exact rfl);(· repeat' (first|exact U4|(apply Ug;exact Q0 rfl)));exact rfl;(· infer_instance))|apply Qd|apply Q2|apply Y7|apply U0|apply Yd|(apply Jg;exact rfl;exact Q0 rfl;(iterate 4 exact rfl))|(apply S_remW;exact Q0 rfl;exact Q0 rfl;exact rfl;(· (first|exact Nat.le_of_ble_eq_true rfl|omega|decide)))|(apply S_bits;(· (first|exact Or.inl rfl|exact Or.inr (Or.inl rfl)|exact Or.inr (Or.inr (Or.inl rfl))|exact Or.inr (Or.inr (Or.inr rfl)))))|apply Qk (f:=190)|apply c6|apply c11|apply c25|apply c2|apply c13|apply c22|apply Qk (f:=198)|apply n0|exact Qa|apply Q3|(apply View.pure;exact Q4.out)|exact Jq.out|with_reducible apply Go.Av.i64_xor|with_reducible apply Go.Av.i64_and|exact Q0 rfl|exact Ql|(apply Qg;exact Q0 rfl)|exact Q5 rfl rfl|assumption|exact rfl|fail)
theorem l2Keys_cv:CV Tryz.prog 186 [] (· = arW keysL):=by
 refine J7 Qc Tryz.func186 (by kernel_rfl) rfl 2 rfl (by simp) [.cell 0 185] rfl ?_
 intro w0 ok0
 repeat' (first|refine Qh ?_|refine Q9 ?_|refine Q8 Qc ?_|refine Qi ?_|refine Qu ?_|(apply E_X<;>repeat' (first|exact J4|(apply J3;exact rfl)|(apply Qx;(iterate 6 exact rfl))|(apply J5;(iterate 4 exact rfl);(· (first|assumption|exact rfl)))|(apply view_aggP;exact Qe.out)|exact Qa|apply Q3|apply Jb|(apply Uu;exact rfl;(· first|exact rfl|assumption|(simp [Q1];done)|(simp [Q1];omega)|omega);exact Q6.out)|(apply U8;exact Q6.out)|apply Uh|apply Ul|(apply View.ofEq;exact Q4.out)|exact rfl))|(apply S_buildAL Qc;(iterate 4 exact rfl);(· repeat' (first|exact U4|(apply Ug;exact Q0 rfl)));exact rfl;(· infer_instance))|apply U0|(apply Jg;exact rfl;exact Q0 rfl;(iterate 4 exact rfl))|exact Q0 rfl|exact Q5 rfl rfl|exact rfl|fail)
theorem l2Start_cv:CV Tryz.prog 187 [] (· = arW startL):=by
 refine J7 Qc Tryz.func187 (by kernel_rfl) rfl 2 rfl (by simp) [.cell 0 187] rfl ?_
 intro w0 ok0
 repeat' (first|refine Qh ?_|refine Q9 ?_|refine Q8 Qc ?_|refine Qi ?_|refine Qu ?_|(apply E_X<;>repeat' (first|exact J4|(apply J3;exact rfl)|(apply Qx;(iterate 6 exact rfl))|(apply J5;(iterate 4 exact rfl);(· (first|assumption|exact rfl)))|(apply view_aggP;exact Qe.out)|exact Qa|apply Q3|apply Jb|(apply Uu;exact rfl;(· first|exact rfl|assumption|(simp [Q1];done)|(simp [Q1];omega)|omega);exact Q6.out)|(apply U8;exact Q6.out)|apply Uh|apply Ul|(apply View.ofEq;exact Q4.out)|exact rfl))|(apply S_buildAL Qc;(iterate 4 exact rfl);(· repeat' (first|exact U4|(apply Ug;exact Q0 rfl)));exact rfl;(· infer_instance))|apply U0|(apply Jg;exact rfl;exact Q0 rfl;(iterate 4 exact rfl))|exact Q0 rfl|exact Q5 rfl rfl|exact rfl|fail)
end Go.Proofs.YtaolmfgpebncjaaGreat
