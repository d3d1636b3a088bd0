/- Heads: zeros, hardness, first heads. -/
import Derived.Test.YtaolmfgpebncjaaGreatZp
import Derived.Test.YtaolmfgpebncjaaGreatGi
set_option maxRecDepth 100000
set_option maxHeartbeats 3200000
set_option linter.unusedSimpArgs false
set_option linter.unusedVariables false
namespace Go.Proofs.YtaolmfgpebncjaaGreat
open Go.Av
attribute [local irreducible] T thenQ Uv Y0 Uz WX retV retR Gt Gts GtsP Qs CV CR Av.Pure
attribute [local irreducible] sha zerosL lz8
theorem shr_bit:∀ c:Fin 256,∀ j:Fin 8,j.1<=lz8 c.1->bits .and .u8 (Int.fdiv (c.1:Int) (2 ^ min (7 - (j.1:Int)).toNat IntKind.u8.bits)) 1 = (if lz8 c.1 = j.1 then 1 else 0):=by decide +kernel
theorem lz8_zero:∀ c:Fin 256,(lz8 c.1 = 8 ↔ c.1 = 0):=by decide +kernel
theorem zerosL_nil:zerosL [] = 0:=by unfold zerosL;rfl
theorem len8_cv (b:UInt8):CV Tryz.prog 197 [.int .u8 (b.toNat:Int)] (· = .int .i64 (8 - (lz8 b.toNat:Int))):=by
 refine J7 Qc Tryz.func197 (by kernel_rfl) rfl 6 rfl (by simp) [.tmp 2] rfl ?_
 intro w0 ok0
 have hb:b.toNat < 256:=b.toNat_lt
 generalize b.toNat = c at *
 repeat' (first|refine Qh ?_|refine Q9 ?_|refine Q8 Qc ?_|refine Qi ?_|refine Qu ?_|(apply Jr;exact rfl;(· (repeat' (first|exact Qb _ _|exact Qj _|exact Qn _);done)))|apply Qd|apply Q2|(apply S_conv;exact rfl;exact rfl;exact Q0 rfl)|(apply S_idxStr;exact rfl;exact Q0 rfl;exact Q0 rfl)|exact Q0 rfl|exact rfl|fail)
 ·exact ⟨by omega,Int.lt_of_lt_of_le (b:=256) (by omega) (Int.le_of_eq rfl)⟩
 ·refine congrArg (AV.int .i64) ?_
  revert c
  decide +kernel
theorem lead_cv (b:UInt8):CV Tryz.prog 184 [.int .u8 (b.toNat:Int)] (· = .int .i64 (lz8 b.toNat:Int)):=by
 refine J7 Qc Tryz.func184 (by kernel_rfl) rfl 6 rfl (by simp) [.tmp 2] rfl ?_
 intro w0 ok0
 have h8:=lz8_le b.toNat
 have hw:IntKind.wrap .i64 (8 - (8 - (lz8 b.toNat:Int))) = (lz8 b.toNat:Int):=by rw [wrap_i64 (by omega) (by omega)];omega
 repeat' (first|refine Qh ?_|refine Q9 ?_|refine Q8 Qc ?_|refine Qi ?_|refine Qu ?_|(apply Jr;exact rfl;(· (repeat' (first|exact Qb _ _|exact Qj _|exact Qn _);done)))|apply Qd|apply Q2|apply S_sub|apply Qk (f:=197)|apply len8_cv|exact Qa|apply Q3|(apply View.pure;exact Q4.out)|exact Jq.out|exact Q0 rfl|exact Ql|(apply Qg;exact Q0 rfl)|assumption|exact rfl|fail)
theorem zerosOf_cv (d:List UInt8) (h:d.length<=1000000):CV Tryz.prog 150 [byA d] (· = .int .i64 (zerosL d:Int)):=by
 refine J7 Qc Tryz.func150 (by kernel_rfl) rfl 20 rfl (by simp) [.tmp 2] rfl ?_
 intro w0 ok0
 have hl:=Q1 d
 have hz:=zerosL_le d
 repeat' (first|refine Qh ?_|refine Q9 ?_|refine Q8 Qc ?_|refine Qi ?_|refine Qo ?_|apply Qd|apply Q2|(apply Qp;exact rfl;exact Q0 rfl)|exact Q0 rfl|exact rfl|fail)
 refine Js (α:=Nat) (λ k=>⟨[(3,.int .i64 ((8 * k:Nat):Int)),(6,byA d),(7,.int .i64 (bA d).length),(8,.int .i64 k)],[],0⟩)
  (λ k=>d.length - k) (λ k=>k<=d.length/\zerosL d = 8 * k + zerosL (d.drop k)) 0 ((Jp (by repeat' (first|exact Qy|refine Qr rfl ?_)) (by repeat' (first|exact Qz|refine Qt (by first|rfl|exact congrArg (λ l=>some (Box.mk l _ _ _)) hset) ?_)) (Nat.le_refl _))).sub ⟨by omega,by simp⟩ ?_
 rintro k ⟨hk,hI⟩
 by_cases hkl:k < d.length
 ·have d1:decide ((k:Int) < ((bA d).length:Int)) = true:=decide_eq_true (by omega)
  have ga:=bA_getD d hkl
  rw [zerosL_step d hkl] at hI
  have c0:=lead_cv (d.getD k 0)
  have hb:=lz8_zero ⟨(d.getD k 0).toNat,(d.getD k 0).toNat_lt⟩
  simp only at hb
  generalize d.getD k 0 = b at *
  have hw:IntKind.wrap .i64 ((k:Int) + 1) = ((k + 1:Nat):Int):=by rw [wrap_i64 (by omega) (by omega)];omega
  by_cases g:b.toNat = 0
  ·rw [if_pos g] at hI
   rw [hb.2 g] at c0
   have w1:IntKind.wrap .i64 (((8 * k:Nat):Int) + ((8:Nat):Int)) = ((8 * (k + 1):Nat):Int):=by rw [wrap_i64 (by omega) (by omega)];omega
   have e0:(!decide ((b.toNat:Int) = 0)) = false:=by rw [decide_eq_true (by omega)];rfl
   repeat' (first|refine Qh ?_|refine Q9 ?_|refine U9 ?_|refine Q8 Qc ?_|refine Qi ?_|refine Qw ?_|refine Qo ?_|(apply Jf;exact rfl;(· (first|assumption|exact rfl)))|(apply J9;exact rfl;(· (first|assumption|exact rfl)))|apply Qd|apply Q2|(apply Ue;exact rfl;exact Q0 rfl;exact rfl;(· (first|exact ⟨rfl,rfl⟩|exact ⟨rfl,trivial⟩|assumption)))|apply Jd|(apply Y4;exact Q0 rfl;exact Q0 rfl)|apply Y7|(apply Jk;exact rfl;exact rfl;exact Q0 rfl;exact Q0 rfl)|apply Qk (f:=184)|apply c0|exact Qa|apply Q3|(apply View.pure;exact Q4.out)|exact Jq.out|exact Q0 rfl|exact Ql|(apply Qg;exact Q0 rfl)|assumption|(refine ⟨?_,?_⟩<;>omega)|exact rfl|fail)
   exact U7 (k + 1) ((Jp (by repeat' (first|exact Qy|refine Qr rfl ?_)) (by repeat' (first|exact Qz|refine Qt (by first|rfl|exact congrArg (λ l=>some (Box.mk l _ _ _)) hset) ?_)) (Nat.le_refl _))).sub ⟨by omega,by omega⟩ (by omega)
  ·rw [if_neg g] at hI
   have w1:IntKind.wrap .i64 (((8 * k:Nat):Int) + ((lz8 b.toNat:Nat):Int)) = ((zerosL d:Nat):Int):=by rw [wrap_i64 (by omega) (by omega)];omega
   have e0:(!decide ((b.toNat:Int) = 0)) = true:=by rw [decide_eq_false (by omega)];rfl
   repeat' (first|refine Qh ?_|refine Q9 ?_|refine Ua ?_|refine Jt ?_|refine N_blockX rfl ?_|refine Jo ?_|refine Q8 Qc ?_|refine Qi ?_|refine Qw ?_|refine Qu ?_|refine Un ?_|refine Qo ?_|(apply Jr;exact rfl;(· (repeat' (first|exact Qb _ _|exact Qj _|exact Qn _);done)))|(apply Jf;exact rfl;(· (first|assumption|exact rfl)))|apply Qd|apply Q2|(apply Ue;exact rfl;exact Q0 rfl;exact rfl;(· (first|exact ⟨rfl,rfl⟩|exact ⟨rfl,trivial⟩|assumption)))|apply Jd|(apply Y4;exact Q0 rfl;exact Q0 rfl)|apply Y7|(apply Jk;exact rfl;exact rfl;exact Q0 rfl;exact Q0 rfl)|apply Qk (f:=184)|apply c0|exact Qa|apply Q3|(apply View.pure;exact Q4.out)|exact Jq.out|exact Q0 rfl|exact Ql|(apply Qg;exact Q0 rfl)|assumption|(refine ⟨?_,?_⟩<;>omega)|exact rfl|fail)
 ·have d1:decide ((k:Int) < ((bA d).length:Int)) = false:=decide_eq_false (by omega)
  obtain rfl:k = d.length:=by omega
  rw [List.drop_length] at hI
  have e:zerosL d = 8 * d.length:=by rw [hI,zerosL_nil];rfl
  rw [e]
  repeat' (first|refine Qh ?_|refine Q9 ?_|refine Ua ?_|refine Jt ?_|refine Jo ?_|refine Q8 Qc ?_|refine Qi ?_|refine Qu ?_|refine Un ?_|(apply Jr;exact rfl;(· (repeat' (first|exact Qb _ _|exact Qj _|exact Qn _);done)))|(apply J9;exact rfl;(· (first|assumption|exact rfl)))|apply Qd|apply Q2|apply Jd|exact Q0 rfl|exact rfl|fail)
theorem specZerosOf_cv (d:List UInt8) (h:d.length<=1000000):CV Tryz.prog 164 [byA d] (· = .int .i64 (zerosL d:Int)):=by
 refine J7 Qc Tryz.func164 (by kernel_rfl) rfl 29 rfl (by simp) [.tmp 2] rfl ?_
 intro w0 ok0
 have hl:=Q1 d
 have hz:=zerosL_le d
 repeat' (first|refine Qh ?_|refine Q9 ?_|refine Q8 Qc ?_|refine Qi ?_|refine Qo ?_|apply Q2|exact Q0 rfl|exact rfl|fail)
 refine Js (α:=Nat) (λ k=>⟨[(0,byA d),(3,.int .i64 ((8 * k:Nat):Int)),(4,.int .i64 k)],[],0⟩)
  (λ k=>d.length - k) (λ k=>k<=d.length/\zerosL d = 8 * k + zerosL (d.drop k)) 0 ((Jp (by repeat' (first|exact Qy|refine Qr rfl ?_)) (by repeat' (first|exact Qz|refine Qt (by first|rfl|exact congrArg (λ l=>some (Box.mk l _ _ _)) hset) ?_)) (Nat.le_refl _))).sub ⟨by omega,by simp⟩ ?_
 rintro k ⟨hk,hI⟩
 by_cases hkl:k < d.length
 ·have d1:decide ((k:Int) < ((bA d).length:Int)) = true:=decide_eq_true (by omega)
  have ga:=bA_getD d hkl
  rw [zerosL_step d hkl] at hI
  have hb:=lz8_zero ⟨(d.getD k 0).toNat,(d.getD k 0).toNat_lt⟩
  simp only at hb
  have hs:=shr_bit ⟨(d.getD k 0).toNat,(d.getD k 0).toNat_lt⟩
  have h8:=lz8_le (d.getD k 0).toNat
  generalize d.getD k 0 = b at *
  simp only at hs
  repeat' (first|refine Qh ?_|refine Q9 ?_|refine Q8 Qc ?_|refine Qi ?_|refine Qw ?_|refine Qo ?_|(apply Jf;exact rfl;(· (first|assumption|exact rfl)))|apply Qd|apply Q2|apply Jd|(apply Qp;exact rfl;exact Q0 rfl)|exact Q0 rfl|exact rfl|fail)
  refine Js (α:=Nat) (λ j=>⟨[(0,byA d),(3,.int .i64 ((8 * k + j:Nat):Int)),(4,.int .i64 k),(5,.int .i64 (7 - (j:Int)))],[],0⟩)
   (λ j=>8 - j) (λ j=>j<=lz8 b.toNat) 0 ((Jp (by repeat' (first|exact Qy|refine Qr rfl ?_)) (by repeat' (first|exact Qz|refine Qt (by first|rfl|exact congrArg (λ l=>some (Box.mk l _ _ _)) hset) ?_)) (Nat.le_refl _))).sub (by omega) ?_
  intro j hj
  by_cases hj8:j < 8
  ·have d2:decide ((0:Int)<=7 - (j:Int)) = true:=decide_eq_true (by omega)
   have w1:IntKind.wrap .u64 (7 - (j:Int)) = 7 - (j:Int):=wrap_u64 (by omega) (by omega)
   have p1:(0:Int)<=7 - (j:Int):=by omega
   have b1:=hs ⟨j,hj8⟩ hj
   simp only at b1
   by_cases g:lz8 b.toNat = j
   ·rw [if_pos g] at b1
    have hne:b.toNat≠0:=λ q=>by have:=hb.2 q;omega
    rw [if_neg hne] at hI
    have e:zerosL d = 8 * k + j:=by omega
    rw [e]
    repeat' (first|refine Qh ?_|refine Q9 ?_|refine J8 ?_|refine Ui ?_|refine Ya ?_|refine Q8 Qc ?_|refine Qi ?_|refine Qw ?_|refine Qu ?_|refine Qo ?_|(apply Jr;exact rfl;(· (repeat' (first|exact Qb _ _|exact Qj _|exact Qn _);done)))|(apply Jf;exact rfl;(· (first|assumption|exact rfl)))|apply Qd|apply Q2|(apply Ue;exact rfl;exact Q0 rfl;exact rfl;(· (first|exact ⟨rfl,rfl⟩|exact ⟨rfl,trivial⟩|assumption)))|apply S_geq|(apply S_eql;exact Q0 rfl;exact Q0 rfl)|(apply S_conv;exact rfl;exact rfl;exact Q0 rfl)|apply S_shrW|(apply Jk;exact rfl;exact rfl;exact Q0 rfl;exact Q0 rfl)|(apply S_bits;(· (first|exact Or.inl rfl|exact Or.inr (Or.inl rfl)|exact Or.inr (Or.inr (Or.inl rfl))|exact Or.inr (Or.inr (Or.inr rfl)))))|exact Q0 rfl|assumption|(refine ⟨?_,?_⟩<;>omega)|exact rfl|fail)
   ·rw [if_neg g] at b1
    have w2:IntKind.wrap .i64 (((8 * k + j:Nat):Int) + 1) = ((8 * k + (j + 1):Nat):Int):=by rw [wrap_i64 (by omega) (by omega)];omega
    have w3:IntKind.wrap .i64 (7 - (j:Int) - 1) = 7 - ((j + 1:Nat):Int):=by rw [wrap_i64 (by omega) (by omega)];omega
    repeat' (first|refine Qh ?_|refine Q9 ?_|refine U9 ?_|refine Q8 Qc ?_|refine Qi ?_|refine Qw ?_|refine Qo ?_|(apply Jf;exact rfl;(· (first|assumption|exact rfl)))|(apply J9;exact rfl;(· (first|assumption|exact rfl)))|apply Qd|apply Q2|(apply Ue;exact rfl;exact Q0 rfl;exact rfl;(· (first|exact ⟨rfl,rfl⟩|exact ⟨rfl,trivial⟩|assumption)))|apply S_geq|(apply S_eql;exact Q0 rfl;exact Q0 rfl)|apply Y7|apply S_sub|(apply S_conv;exact rfl;exact rfl;exact Q0 rfl)|apply S_shrW|(apply Jk;exact rfl;exact rfl;exact Q0 rfl;exact Q0 rfl)|(apply S_bits;(· (first|exact Or.inl rfl|exact Or.inr (Or.inl rfl)|exact Or.inr (Or.inr (Or.inl rfl))|exact Or.inr (Or.inr (Or.inr rfl)))))|exact Q0 rfl|assumption|(refine ⟨?_,?_⟩<;>omega)|exact rfl|fail)
    exact U7 (j + 1) ((Jp (by repeat' (first|exact Qy|refine Qr rfl ?_)) (by repeat' (first|exact Qz|refine Qt (by first|rfl|exact congrArg (λ l=>some (Box.mk l _ _ _)) hset) ?_)) (Nat.le_refl _))).sub (by omega) (by omega)
  ·have d2:decide ((0:Int)<=7 - (j:Int)) = false:=decide_eq_false (by omega)
   obtain rfl:j = 8:=by omega
   have g:b.toNat = 0:=hb.1 (by omega)
   rw [if_pos g] at hI
   have hw:IntKind.wrap .i64 ((k:Int) + 1) = ((k + 1:Nat):Int):=by rw [wrap_i64 (by omega) (by omega)];omega
   repeat' (first|refine Qh ?_|refine Q9 ?_|refine Ua ?_|refine U9 ?_|refine Jt ?_|refine Jo ?_|refine Q8 Qc ?_|refine Qi ?_|refine Un ?_|(apply J9;exact rfl;(· (first|assumption|exact rfl)))|apply Qd|apply Q2|apply S_geq|apply Y7|exact Q0 rfl|assumption|exact rfl|fail)
   exact U7 (k + 1) ((Jp (by repeat' (first|exact Qy|refine Qr rfl ?_)) (by repeat' (first|exact Qz|refine Qt (by first|rfl|exact congrArg (λ l=>some (Box.mk l _ _ _)) hset) ?_)) (Nat.le_refl _))).sub ⟨by omega,by omega⟩ (by omega)
 ·have d1:decide ((k:Int) < ((bA d).length:Int)) = false:=decide_eq_false (by omega)
  obtain rfl:k = d.length:=by omega
  rw [List.drop_length] at hI
  have e:zerosL d = 8 * d.length:=by rw [hI,zerosL_nil];rfl
  rw [e]
  repeat' (first|refine Qh ?_|refine Q9 ?_|refine Ua ?_|refine Jt ?_|refine Jo ?_|refine Q8 Qc ?_|refine Qi ?_|refine Qu ?_|refine Un ?_|(apply Jr;exact rfl;(· (repeat' (first|exact Qb _ _|exact Qj _|exact Qn _);done)))|(apply J9;exact rfl;(· (first|assumption|exact rfl)))|apply Qd|apply Q2|apply Jd|(apply Qp;exact rfl;exact Q0 rfl)|exact Q0 rfl|exact rfl|fail)
/-! hard heads -/
def hardF (x:Hd):Int:=if Jw x≠0 then Jw x else if x.zeros<=(zerosL (hdD x):Int) then 0 else 6
theorem isHard_cv (x:Hd) (h:Jw x = 0):CV Tryz.prog 92 [hdA x] (· = .bool (decide (x.zeros<=(zerosL (hdD x):Int)))):=by
 refine J7 Qc Tryz.func92 (by kernel_rfl) rfl 9 rfl (by simp) [.tmp 2] rfl ?_
 intro w0 ok0
 have hd:=hdD_length x
 have c0:=hdDigest_cv x h
 have c1:=zerosOf_cv (hdD x) (by omega)
 repeat' (first|refine Qh ?_|refine Q9 ?_|refine Q8 Qc ?_|(apply Ur Qc Uw;(· kernel_rfl))|refine Qi ?_|refine Qu ?_|(apply Jr;exact rfl;(· (repeat' (first|exact Qb _ _|exact Qj _|exact Qn _);done)))|apply Q2|(apply Jj;exact rfl;exact Q0 rfl;(iterate 3 exact rfl);(· (first|exact ⟨rfl,rfl⟩|exact ⟨rfl,trivial⟩|assumption)))|(apply Yc;exact rfl;exact Q0 rfl;(iterate 6 exact rfl))|(apply J6;(iterate 4 exact rfl);exact Q0 rfl)|apply S_geq|apply Yd|apply Jl (f:=71)|apply c0|apply Qk (f:=150)|apply c1|exact Qa|apply Q3|(apply View.pure;exact Q4.out)|exact Jq.out|exact Qe.out|exact Q0 rfl|exact Ql|(apply Qg;exact Q0 rfl)|exact Q5 rfl rfl|exact rfl|fail)
theorem l5Hard_cv (x:Hd) (h:Jw x = 0):CV Tryz.prog 116 [hdA x] (· = .bool (decide (x.zeros<=(zerosL (hdD x):Int)))):=by
 refine J7 Qc Tryz.func116 (by kernel_rfl) rfl 9 rfl (by simp) [.tmp 2] rfl ?_
 intro w0 ok0
 have hd:=hdD_length x
 have c0:=l5Digest_cv x h
 have c1:=specZerosOf_cv (hdD x) (by omega)
 repeat' (first|refine Qh ?_|refine Q9 ?_|refine Q8 Qc ?_|(apply Ur Qc Uw;(· kernel_rfl))|refine Qi ?_|refine Qu ?_|(apply Jr;exact rfl;(· (repeat' (first|exact Qb _ _|exact Qj _|exact Qn _);done)))|apply Q2|(apply Jj;exact rfl;exact Q0 rfl;(iterate 3 exact rfl);(· (first|exact ⟨rfl,rfl⟩|exact ⟨rfl,trivial⟩|assumption)))|(apply Yc;exact rfl;exact Q0 rfl;(iterate 6 exact rfl))|(apply J6;(iterate 4 exact rfl);exact Q0 rfl)|apply S_geq|apply Yd|apply Jl (f:=124)|apply c0|apply Qk (f:=164)|apply c1|exact Qa|apply Q3|(apply View.pure;exact Q4.out)|exact Jq.out|exact Qe.out|exact Q0 rfl|exact Ql|(apply Qg;exact Q0 rfl)|exact Q5 rfl rfl|exact rfl|fail)
/-! the first head of a chain -/
abbrev zero32:List UInt8:=List.replicate 32 0
def firstB (x:Hd):Bool:=decide (x.height = 0) && decide (x.zeros = 0) && decide (x.parent = zero32)
theorem view_zero32 {bx:List (Nat×Option Box)}:View bx (.ls 1 false true (bA zero32)) (.ls 1 true false (bA zero32)):=view_lsV (viewE_pure (Yi zero32))
theorem isFirst_cv (x:Hd):CV Tryz.prog 93 [hdA x] (· = .bool (firstB x)):=by
 refine J7 Qc Tryz.func93 (by kernel_rfl) rfl 17 rfl (by simp) [.tmp 2] rfl ?_
 intro w0 ok0
 have c0:=equal_cv x.parent zero32
 unfold firstB
 by_cases g1:x.height = 0
 ·have d1:=decide_eq_true g1
  rw [d1]
  by_cases g2:x.zeros = 0
  ·have d2:=decide_eq_true g2
   rw [d2]
   have e1:(true && true) = true:=rfl
   rw [e1,Bool.true_and]
   repeat' (first|refine Qh ?_|refine Q9 ?_|refine Q8 Qc ?_|(apply Ur Qc Uw;(· kernel_rfl))|refine Qi ?_|refine Qu ?_|(apply Jr;exact rfl;(· (repeat' (first|exact Qb _ _|exact Qj _|exact Qn _);done)))|(apply S_makeV;exact rfl;exact rfl;exact Q0 rfl;exact Q0 rfl;exact rfl;(· first|assumption|exact rfl);exact rfl;exact rfl)|(apply S_gt;exact rfl;exact rfl;(· (first|assumption|exact rfl)))|apply Qd|apply Q2|(apply S_pickT;exact Q0 rfl;(· (first|assumption|exact rfl)))|(apply Jj;exact rfl;exact Q0 rfl;(iterate 3 exact rfl);(· (first|exact ⟨rfl,rfl⟩|exact ⟨rfl,trivial⟩|assumption)))|(apply J6;(iterate 4 exact rfl);exact Q0 rfl)|(apply S_eql;exact Q0 rfl;exact Q0 rfl)|apply Yd|apply Qk (f:=91)|apply c0|exact Qa|apply Q3|(apply View.pure;exact Q4.out)|exact Jq.out|exact Q0 rfl|exact Ql|(apply Qg;exact Q0 rfl)|exact Q5 rfl rfl|assumption|exact rfl|fail)
   exact view_zero32
  ·have d2:=decide_eq_false g2
   rw [d2,Bool.and_false,Bool.false_and]
   repeat' (first|refine Qh ?_|refine Q9 ?_|refine Q8 Qc ?_|(apply Ur Qc Uw;(· kernel_rfl))|refine Qi ?_|refine Qu ?_|(apply Jr;exact rfl;(· (repeat' (first|exact Qb _ _|exact Qj _|exact Qn _);done)))|(apply S_gt;exact rfl;exact rfl;(· (first|assumption|exact rfl)))|(apply S_gtF';(iterate 3 exact rfl);(· (first|assumption|exact rfl)))|apply Qd|apply Q2|(apply S_pickT;exact Q0 rfl;(· (first|assumption|exact rfl)))|(apply Uj;exact Q0 rfl;(· (first|assumption|exact rfl)))|(apply Jj;exact rfl;exact Q0 rfl;(iterate 3 exact rfl);(· (first|exact ⟨rfl,rfl⟩|exact ⟨rfl,trivial⟩|assumption)))|(apply J6;(iterate 4 exact rfl);exact Q0 rfl)|(apply S_eql;exact Q0 rfl;exact Q0 rfl)|apply Yd|exact Q0 rfl|exact Q5 rfl rfl|exact rfl|fail)
 ·have d1:=decide_eq_false g1
  rw [d1,Bool.false_and,Bool.false_and]
  repeat' (first|refine Qh ?_|refine Q9 ?_|refine Q8 Qc ?_|(apply Ur Qc Uw;(· kernel_rfl))|refine Qi ?_|refine Qu ?_|(apply Jr;exact rfl;(· (repeat' (first|exact Qb _ _|exact Qj _|exact Qn _);done)))|(apply S_gtF';(iterate 3 exact rfl);(· (first|assumption|exact rfl)))|apply Qd|apply Q2|(apply Uj;exact Q0 rfl;(· (first|assumption|exact rfl)))|(apply Jj;exact rfl;exact Q0 rfl;(iterate 3 exact rfl);(· (first|exact ⟨rfl,rfl⟩|exact ⟨rfl,trivial⟩|assumption)))|(apply J6;(iterate 4 exact rfl);exact Q0 rfl)|(apply S_eql;exact Q0 rfl;exact Q0 rfl)|apply Yd|exact Q0 rfl|exact Q5 rfl rfl|exact rfl|fail)
theorem l5First_cv (x:Hd) (h:x.parent.length<=1000000):CV Tryz.prog 104 [hdA x] (· = .bool (firstB x)):=by
 refine J7 Qc Tryz.func104 (by kernel_rfl) rfl 17 rfl (by simp) [.tmp 2] rfl ?_
 intro w0 ok0
 have c0:=same_cv x.parent zero32 (by omega) (by decide)
 unfold firstB
 by_cases g1:x.height = 0
 ·have d1:=decide_eq_true g1
  rw [d1]
  by_cases g2:x.zeros = 0
  ·have d2:=decide_eq_true g2
   rw [d2]
   have e1:(true && true) = true:=rfl
   rw [e1,Bool.true_and]
   repeat' (first|refine Qh ?_|refine Q9 ?_|refine Q8 Qc ?_|(apply Ur Qc Uw;(· kernel_rfl))|refine Qi ?_|refine Qu ?_|(apply Jr;exact rfl;(· (repeat' (first|exact Qb _ _|exact Qj _|exact Qn _);done)))|(apply S_makeV;exact rfl;exact rfl;exact Q0 rfl;exact Q0 rfl;exact rfl;(· first|assumption|exact rfl);exact rfl;exact rfl)|(apply S_gt;exact rfl;exact rfl;(· (first|assumption|exact rfl)))|apply Qd|apply Q2|(apply S_pickT;exact Q0 rfl;(· (first|assumption|exact rfl)))|(apply Jj;exact rfl;exact Q0 rfl;(iterate 3 exact rfl);(· (first|exact ⟨rfl,rfl⟩|exact ⟨rfl,trivial⟩|assumption)))|(apply J6;(iterate 4 exact rfl);exact Q0 rfl)|(apply S_eql;exact Q0 rfl;exact Q0 rfl)|apply Yd|apply Qk (f:=114)|apply c0|exact Qa|apply Q3|(apply View.pure;exact Q4.out)|exact Jq.out|exact Q0 rfl|exact Ql|(apply Qg;exact Q0 rfl)|exact Q5 rfl rfl|assumption|exact rfl|fail)
   exact view_zero32
  ·have d2:=decide_eq_false g2
   rw [d2,Bool.and_false,Bool.false_and]
   repeat' (first|refine Qh ?_|refine Q9 ?_|refine Q8 Qc ?_|(apply Ur Qc Uw;(· kernel_rfl))|refine Qi ?_|refine Qu ?_|(apply Jr;exact rfl;(· (repeat' (first|exact Qb _ _|exact Qj _|exact Qn _);done)))|(apply S_gt;exact rfl;exact rfl;(· (first|assumption|exact rfl)))|(apply S_gtF';(iterate 3 exact rfl);(· (first|assumption|exact rfl)))|apply Qd|apply Q2|(apply S_pickT;exact Q0 rfl;(· (first|assumption|exact rfl)))|(apply Uj;exact Q0 rfl;(· (first|assumption|exact rfl)))|(apply Jj;exact rfl;exact Q0 rfl;(iterate 3 exact rfl);(· (first|exact ⟨rfl,rfl⟩|exact ⟨rfl,trivial⟩|assumption)))|(apply J6;(iterate 4 exact rfl);exact Q0 rfl)|(apply S_eql;exact Q0 rfl;exact Q0 rfl)|apply Yd|exact Q0 rfl|exact Q5 rfl rfl|exact rfl|fail)
 ·have d1:=decide_eq_false g1
  rw [d1,Bool.false_and,Bool.false_and]
  repeat' (first|refine Qh ?_|refine Q9 ?_|refine Q8 Qc ?_|(apply Ur Qc Uw;(· kernel_rfl))|refine Qi ?_|refine Qu ?_|(apply Jr;exact rfl;(· (repeat' (first|exact Qb _ _|exact Qj _|exact Qn _);done)))|(apply S_gtF';(iterate 3 exact rfl);(· (first|assumption|exact rfl)))|apply Qd|apply Q2|(apply Uj;exact Q0 rfl;(· (first|assumption|exact rfl)))|(apply Jj;exact rfl;exact Q0 rfl;(iterate 3 exact rfl);(· (first|exact ⟨rfl,rfl⟩|exact ⟨rfl,trivial⟩|assumption)))|(apply J6;(iterate 4 exact rfl);exact Q0 rfl)|(apply S_eql;exact Q0 rfl;exact Q0 rfl)|apply Yd|exact Q0 rfl|exact Q5 rfl rfl|exact rfl|fail)
end Go.Proofs.YtaolmfgpebncjaaGreat
