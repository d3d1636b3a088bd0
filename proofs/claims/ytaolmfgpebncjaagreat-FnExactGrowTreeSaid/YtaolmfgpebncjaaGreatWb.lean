/- Ranges, kinds, and the seven bytes of a number. -/
import Derived.Test.YtaolmfgpebncjaaGreatWa
set_option maxRecDepth 100000
set_option maxHeartbeats 3200000
set_option linter.unusedSimpArgs false
set_option linter.unusedVariables false
namespace Go.Proofs.YtaolmfgpebncjaaGreat
open Go.Av
attribute [local irreducible] T thenQ Uv Y0 Uz WX retV retR Gt Gts GtsP Qs CV CR Av.Pure
theorem in_cv (n lo hi:Int):CV Tryz.prog 57 [.int .i64 n,.int .i64 lo,.int .i64 hi] (· = .bool (decide (lo<=n) && decide (n<=hi))):=by
 refine J7 Qc Tryz.func57 (by kernel_rfl) rfl 15 rfl (by simp) [.tmp 6] rfl ?_
 intro w0 ok0
 repeat' (first|refine Qh ?_|refine Q9 ?_|refine Q8 Qc ?_|refine Qi ?_|refine Qu ?_|(apply Jr;exact rfl;(· (repeat' (first|exact Qb _ _|exact Qj _|exact Qn _);done)))|(apply S_gt;exact rfl;exact rfl;(· (first|assumption|exact rfl)))|(apply S_gtF';(iterate 3 exact rfl);(· (first|assumption|exact rfl)))|refine S_gsplit rfl rfl (λ _=>?_) (λ _=>?_)|apply Qd|apply Q2|(apply S_pickT;exact Q0 rfl;(· (first|assumption|exact rfl)))|(apply Uj;exact Q0 rfl;(· (first|assumption|exact rfl)))|apply S_leq|exact Q0 rfl|exact rfl|fail)
 all_goals (first|rfl|(simp_all;done)|(simp_all;omega))
theorem l1In_cv (n lo hi:Int):CV Tryz.prog 53 [.int .i64 n,.int .i64 lo,.int .i64 hi] (· = .bool (decide (lo<=n) && decide (n<=hi))):=by
 refine J7 Qc Tryz.func53 (by kernel_rfl) rfl 15 rfl (by simp) [.tmp 6] rfl ?_
 intro w0 ok0
 repeat' (first|refine Qh ?_|refine Q9 ?_|refine Q8 Qc ?_|refine Qi ?_|refine Qu ?_|(apply Jr;exact rfl;(· (repeat' (first|exact Qb _ _|exact Qj _|exact Qn _);done)))|(apply S_gt;exact rfl;exact rfl;(· (first|assumption|exact rfl)))|(apply S_gtF';(iterate 3 exact rfl);(· (first|assumption|exact rfl)))|refine S_gsplit rfl rfl (λ _=>?_) (λ _=>?_)|apply Qd|apply Q2|(apply S_pickT;exact Q0 rfl;(· (first|assumption|exact rfl)))|(apply Uj;exact Q0 rfl;(· (first|assumption|exact rfl)))|apply S_leq|apply S_geq|exact Q0 rfl|exact rfl|fail)
 all_goals (first|rfl|(simp_all;done)|(simp_all;omega))
theorem l1Min_cv (a b:Int):CV Tryz.prog 166 [.int .i64 a,.int .i64 b] (· = .int .i64 (if a < b then a else b)):=by
 refine J7 Qc Tryz.func166 (by kernel_rfl) rfl 10 rfl (by simp) [.tmp 4] rfl ?_
 intro w0 ok0
 repeat' (first|refine Qh ?_|refine Q9 ?_|refine J8 ?_|refine Q8 Qc ?_|refine Qi ?_|refine Qw ?_|refine Qu ?_|(apply Jr;exact rfl;(· (repeat' (first|exact Qb _ _|exact Qj _|exact Qn _);done)))|refine T_if rfl (λ _=>?_) (λ _=>?_)|apply Qd|apply Q2|apply Jd|exact Q0 rfl|exact rfl|fail)
 all_goals (first|rfl|(simp_all;done)|(simp_all;omega))
def isKind (k:Int):Bool:=decide (k = 1) || decide (k = 2)
def byteOf (n:Int):UInt8:=UInt8.ofNat (n % 256).toNat
theorem byteOf_int (n:Int):((byteOf n).toNat:Int) = n % 256:=by
 unfold byteOf
 have h1:0<=n % 256:=Int.emod_nonneg _ (by decide)
 have h2:n % 256 < 256:=Int.emod_lt_of_pos _ (by decide)
 rw [UInt8.toNat_ofNat']
 rw [Nat.mod_eq_of_lt (by omega)]
 omega
theorem wrap_byte (n:Int):IntKind.wrap .u8 n = ((byteOf n).toNat:Int):=by
 rw [byteOf_int]
 simp [IntKind.wrap,IntKind.bits,IntKind.signed]
def putN (n:Int):List UInt8:=[byteOf (n.fdiv (2 ^ 48)),byteOf (n.fdiv (2 ^ 40)),byteOf (n.fdiv (2 ^ 32)),byteOf (n.fdiv (2 ^ 24)),byteOf (n.fdiv (2 ^ 16)),byteOf (n.fdiv (2 ^ 8)),byteOf n]
theorem putN_length (n:Int):(putN n).length = 7:=rfl
def putPic (n:Int):Nat->List UInt8
 | 0=>[0,0,0,0,0,0,0]
 | 1=>[0,0,0,0,0,0,byteOf n]
 | 2=>[0,0,0,0,0,byteOf (n.fdiv (2 ^ 8)),byteOf n]
 | 3=>[0,0,0,0,byteOf (n.fdiv (2 ^ 16)),byteOf (n.fdiv (2 ^ 8)),byteOf n]
 | 4=>[0,0,0,byteOf (n.fdiv (2 ^ 24)),byteOf (n.fdiv (2 ^ 16)),byteOf (n.fdiv (2 ^ 8)),byteOf n]
 | 5=>[0,0,byteOf (n.fdiv (2 ^ 32)),byteOf (n.fdiv (2 ^ 24)),byteOf (n.fdiv (2 ^ 16)),byteOf (n.fdiv (2 ^ 8)),byteOf n]
 | 6=>[0,byteOf (n.fdiv (2 ^ 40)),byteOf (n.fdiv (2 ^ 32)),byteOf (n.fdiv (2 ^ 24)),byteOf (n.fdiv (2 ^ 16)),byteOf (n.fdiv (2 ^ 8)),byteOf n]
 | _=>putN n
def shN (n:Int):Nat->Int
 | 0=>n
 | 1=>n.fdiv (2 ^ 8)
 | 2=>n.fdiv (2 ^ 16)
 | 3=>n.fdiv (2 ^ 24)
 | 4=>n.fdiv (2 ^ 32)
 | 5=>n.fdiv (2 ^ 40)
 | 6=>n.fdiv (2 ^ 48)
 | _=>n.fdiv (2 ^ 56)
theorem shN_step (n:Int) (j:Nat) (h:j < 7):(shN n j).fdiv (2 ^ min ((8:Int)).toNat IntKind.i64.bits) = shN n (j + 1):=by
 have e:min ((8:Int)).toNat IntKind.i64.bits = 8:=by decide
 rw [e]
 have hj:j = 0∨j = 1∨j = 2∨j = 3∨j = 4∨j = 5∨j = 6:=by omega
 rcases hj with rfl|rfl|rfl|rfl|rfl|rfl|rfl<;>simp only [shN]<;>first|rfl|(rw [Int.fdiv_eq_ediv_of_nonneg _ (by decide),Int.fdiv_eq_ediv_of_nonneg _ (by decide),Int.fdiv_eq_ediv_of_nonneg _ (by decide)];simp only [Int.reducePow];omega)
theorem number_cr0 (n:Int):CR Tryz.prog 131 [.int .i64 n] [] 0 (Is (.sl 0 0 7 7) [(0,some ⟨bA (putN n),1,false,false⟩)] (0 + 1)):=by
 refine Us Qc Tryz.func131 (by kernel_rfl) rfl 18 rfl (by simp) [.tmp 2] rfl ?_
 intro w0 ok0 wr φ0
 repeat' (first|refine Qh ?_|refine Q9 ?_|refine Q8 Qc ?_|refine Qi ?_|refine Qo ?_|apply Q2|(apply S_make;exact rfl;exact rfl;exact Q0 rfl;exact Q0 rfl;exact rfl;(· (first|assumption|omega));(· (first|assumption|omega|(dsimp only;omega)|(simp;omega)));(· (first|assumption|omega|(dsimp only;omega)|(simp;omega)));(· (first|assumption|omega|(dsimp only;omega)|(simp;omega)));(· (first|exact Q5 rfl rfl|assumption));(· (first|exact Nat.le_of_ble_eq_true rfl|omega|decide)))|exact Q0 rfl|exact rfl|fail)
 refine Js (α:=Nat) (λ j=>⟨[(0,.int .i64 (shN n j)),(3,.sl 0 0 7 7),(4,.int .i64 (6 - j))],[(0,some ⟨bA (putPic n j),1,false,false⟩)],1⟩)
  (λ j=>7 - j) (λ j=>j<=7) 0 ((Jp (by repeat' (first|exact Qy|refine Qr rfl ?_)) (by repeat' (first|exact Qz|refine Qt (by first|rfl|exact congrArg (λ l=>some (Box.mk l _ _ _)) hset) ?_)) (Nat.le_refl _))).sub (by omega) ?_
 intro j hj
 have hsh:=shN_step n j
 by_cases h7:j = 7
 ·subst h7
  repeat' (first|refine Qh ?_|refine Q9 ?_|refine Ua ?_|refine Jt ?_|refine Jo ?_|refine Q8 Qc ?_|refine Qi ?_|refine Qu ?_|refine Un ?_|(apply J9;exact rfl;(· (first|assumption|exact rfl)))|apply Qd|apply Q2|apply S_geq|exact Q0 rfl|exact rfl|fail)
  (apply E_U0 [(0,0)]<;>repeat' (first|exact J4|(apply J3;exact rfl)|(apply Qx;(iterate 6 exact rfl))|(apply J5;(iterate 4 exact rfl);(· (first|assumption|exact rfl)))|exact Ren.sl _ _ _ _|(apply Ub;(· first|exact rfl|omega);(· first|exact rfl|assumption|(simp [Q1];done)|(simp [Q1];omega));(· first|exact rfl|assumption|(simp [Q1];done)|(simp [Q1];omega)))|exact Ren.ptr _ _ _|exact Qf|apply Q7|(apply Ren.pure;exact Q4.out)|apply Qm|apply Qv|exact Low.sl _ _ _ _ (by decide)|exact Low.ptr _ _ _ (by decide)|exact J0|apply Qq|(apply Low.pure;exact Q4.out)|apply U3|apply U2|exact Ji|(apply Jx;exact rfl;(· first|exact rfl|assumption|(simp [bA];done));exact Q6.out)|(apply Jh;exact rfl)|exact Jc|apply J1|(apply Uf.low;exact Q6.out)|apply Ju|exact Jv|exact rfl))
 ·have hw:=wrap_byte (shN n j)
  have hst:=hsh (by omega)
  have hc:decide ((0:Int)<=6 - (j:Int)) = true:=by simp;omega
  have hix:(0:Int)<=6 - (j:Int)/\6 - (j:Int) < (7:Nat):=⟨by omega,by omega⟩
  have hlt:0 + (6 - (j:Int)).toNat < (bA (putPic n j)).length:=by
   have:(bA (putPic n j)).length = 7:=by
    have hj':j = 0∨j = 1∨j = 2∨j = 3∨j = 4∨j = 5∨j = 6:=by omega
    rcases hj' with rfl|rfl|rfl|rfl|rfl|rfl|rfl<;>rfl
   omega
  have hset:(bA (putPic n j)).set (0 + (6 - (j:Int)).toNat) (.int .u8 ((byteOf (shN n j)).toNat:Int)) = bA (putPic n (j + 1)):=by
   have hj':j = 0∨j = 1∨j = 2∨j = 3∨j = 4∨j = 5∨j = 6:=by omega
   rcases hj' with rfl|rfl|rfl|rfl|rfl|rfl|rfl<;>rfl
  have hdec:IntKind.wrap .i64 ((6:Int) - (j:Int) - 1) = 6 - ((j + 1:Nat):Int):=by rw [wrap_i64 (by omega) (by omega)];omega
  repeat' (first|refine Qh ?_|refine Q9 ?_|refine U9 ?_|refine Q8 Qc ?_|refine Qi ?_|refine Qw ?_|refine Qo ?_|(apply Jf;exact rfl;(· (first|assumption|exact rfl)))|apply Qd|apply Q2|apply S_geq|apply S_sub|(apply S_conv;exact rfl;exact rfl;exact Q0 rfl)|apply S_shrW|(apply S_idxSl;exact rfl;exact rfl;exact Q0 rfl;exact rfl;exact Q0 rfl)|(apply S_storeE;exact rfl;exact Q0 rfl;(iterate 3 exact rfl))|exact Q0 rfl|exact Q5 rfl rfl|assumption|omega|exact rfl|fail)
  exact U7 (j + 1) ((Jp (by repeat' (first|exact Qy|refine Qr rfl ?_)) (by repeat' (first|exact Qz|refine Qt (by first|rfl|exact congrArg (λ l=>some (Box.mk l _ _ _)) hset) ?_)) (Nat.le_refl _))).sub (by omega) (by omega)
theorem number_cr (n:Int) (N:Nat):CR Tryz.prog 131 [.int .i64 n] [] N (Is (.sl N 0 7 7) [(N,some ⟨bA (putN n),1,false,false⟩)] (N + 1)) :=
 CR.allN (number_cr0 n) N (by first|exact Q4.out|exact Qe.out|assumption) (by repeat' (first|exact Ren.sl _ _ _ _|exact Ren.ptr _ _ _|exact Qf|apply Q7|(apply Ren.pure;(first|exact Q4.out|exact Qe.out|assumption))|apply Qm|apply Qv)) (by repeat' (first|exact Jn|(apply Ja;exact rfl;(· (exact Q6.out)))|(apply Jm;exact rfl)|exact Qf|apply Q7|exact Ren.sl _ _ _ _|exact Ren.ptr _ _ _|(apply Ren.pure;(first|exact Q4.out|exact Qe.out|assumption))|apply Qm))
theorem shr_shN (n:Int) (j:Nat) (h:j < 7):n.fdiv (2 ^ min (IntKind.wrap .u64 (8 * (6 - (j:Int)))).toNat IntKind.i64.bits) = shN n (6 - j):=by
 have hj:j = 0∨j = 1∨j = 2∨j = 3∨j = 4∨j = 5∨j = 6:=by omega
 rcases hj with rfl|rfl|rfl|rfl|rfl|rfl|rfl
 all_goals first|rfl|skip
 rw [show min (IntKind.wrap .u64 (8 * (6 - ((6:Nat):Int)))).toNat IntKind.i64.bits = 0 by decide]
 rw [Int.fdiv_eq_ediv_of_nonneg _ (by decide)]
 simp [shN]
theorem putN_take (n:Int) (j:Nat) (h:j < 7):bA ((putN n).take j)++[.int .u8 ((byteOf (shN n (6 - j))).toNat:Int)] = bA ((putN n).take (j + 1)):=by
 have hj:j = 0∨j = 1∨j = 2∨j = 3∨j = 4∨j = 5∨j = 6:=by omega
 rcases hj with rfl|rfl|rfl|rfl|rfl|rfl|rfl<;>rfl
theorem l1Put_cr0 (n:Int):CR Tryz.prog 172 [.int .i64 n] [] 0 (Is (.sl 0 0 7 7) [(0,some ⟨bA (putN n),1,true,false⟩)] (0 + 1)):=by
 refine Us Qc Tryz.func172 (by kernel_rfl) rfl 20 rfl (by simp) [.tmp 2] rfl ?_
 intro w0 ok0 wr φ0
 repeat' (first|refine Qh ?_|refine Q9 ?_|refine Q8 Qc ?_|refine Qi ?_|refine Qo ?_|apply Q2|(apply S_buildL Qc;(iterate 3 exact rfl))|(dsimp only;omega)|exact U4|exact Uc|exact Q0 rfl|exact rfl|fail)
 refine Js (α:=Nat) (λ j=>⟨[(0,.int .i64 n),(3,.sl 0 0 j j),(4,.int .i64 (6 - j))],[(0,some ⟨bA ((putN n).take j),1,true,false⟩)],1⟩)
  (λ j=>7 - j) (λ j=>j<=7) 0 ((Jp (by repeat' (first|exact Qy|refine Qr rfl ?_)) (by repeat' (first|exact Qz|refine Qt (by first|rfl|exact congrArg (λ l=>some (Box.mk l _ _ _)) hset) ?_)) (Nat.le_refl _))).sub (by omega) ?_
 intro j hj
 by_cases h7:j = 7
 ·subst h7
  repeat' (first|refine Qh ?_|refine Q9 ?_|refine Ua ?_|refine Jt ?_|refine Jo ?_|refine Q8 Qc ?_|refine Qi ?_|refine Qu ?_|refine Un ?_|(apply J9;exact rfl;(· (first|assumption|exact rfl)))|apply Qd|apply Q2|apply S_geq|exact Q0 rfl|exact rfl|fail)
  (apply E_U0 [(0,0)]<;>repeat' (first|exact J4|(apply J3;exact rfl)|(apply Qx;(iterate 6 exact rfl))|(apply J5;(iterate 4 exact rfl);(· (first|assumption|exact rfl)))|exact Ren.sl _ _ _ _|(apply Ub;(· first|exact rfl|omega);(· first|exact rfl|assumption|(simp [Q1];done)|(simp [Q1];omega));(· first|exact rfl|assumption|(simp [Q1];done)|(simp [Q1];omega)))|exact Ren.ptr _ _ _|exact Qf|apply Q7|(apply Ren.pure;exact Q4.out)|apply Qm|apply Qv|exact Low.sl _ _ _ _ (by decide)|exact Low.ptr _ _ _ (by decide)|exact J0|apply Qq|(apply Low.pure;exact Q4.out)|apply U3|apply U2|exact Ji|(apply Jx;exact rfl;(· first|exact rfl|assumption|(simp [bA];done));exact Q6.out)|(apply Jh;exact rfl)|exact Jc|apply J1|(apply Uf.low;exact Q6.out)|apply Ju|exact Jv|exact rfl))
 ·have hc:decide ((0:Int)<=6 - (j:Int)) = true:=by simp;omega
  have hm:IntKind.wrap .i64 (8 * (6 - (j:Int))) = 8 * (6 - (j:Int)):=wrap_i64 (by omega) (by omega)
  have hu:IntKind.wrap .u64 (8 * (6 - (j:Int))) = 8 * (6 - (j:Int)):=wrap_u64 (by omega) (by omega)
  have hs:=shr_shN n j (by omega)
  rw [hu] at hs
  have hw:=wrap_byte (shN n (6 - j))
  have hset:=putN_take n j (by omega)
  have hl:(bA ((putN n).take j)).length = j:=by simp [Q1,putN_length];omega
  have hdec:IntKind.wrap .i64 ((6:Int) - (j:Int) - 1) = 6 - ((j + 1:Nat):Int):=by rw [wrap_i64 (by omega) (by omega)];omega
  repeat' (first|refine Qh ?_|refine Q9 ?_|refine U9 ?_|refine Q8 Qc ?_|refine Qi ?_|refine Qw ?_|refine Qo ?_|(apply Jf;exact rfl;(· (first|assumption|exact rfl)))|apply Qd|apply Q2|apply S_geq|apply S_sub|apply S_mul|(apply S_conv;exact rfl;exact rfl;exact Q0 rfl)|apply S_shrW|(apply M_appB;exact rfl;exact rfl;exact Q0 rfl)|(apply S_buildL Qc;(iterate 3 exact rfl))|(apply mlen;first|exact rfl|assumption|exact Nat.le_of_ble_eq_true rfl|omega|(simp [Q1];done)|(simp [Q1];omega))|(apply msz;first|assumption|exact Nat.le_of_ble_eq_true rfl|(dsimp only;simp only [List.length_append,List.length_map,List.length_cons,List.length_nil,Q1,List.length_take,List.length_drop,List.length_replicate] at *;omega)|(dsimp only;omega))|(apply mnorm;first|with_reducible exact app_nil0 _|exact app_norm _ _|exact rfl)|(apply mtake;first|assumption|exact Ux (by first|rfl|(simp;done))|exact rfl)|(apply src_sl;(iterate 3 exact rfl))|(dsimp only;omega)|exact U4|(apply Ug;exact Q0 rfl)|exact Uc|apply Uq|(intro hu;cases hu;done)|exact Q0 rfl|exact Q5 rfl rfl|assumption|omega|exact rfl|fail)
  exact U7 (j + 1) (sub_names [(0,2)] (k0:=0) rfl (by rfl) (by repeat' (first|exact pullE_nil|(apply Yl;exact rfl)|exact Ren.sl _ _ _ _|(apply Ub;(· first|exact rfl|omega);(· first|exact rfl|assumption|(simp [Q1];done)|(simp [Q1];omega));(· first|exact rfl|assumption|(simp [Q1];done)|(simp [Q1];omega)))|exact Ren.ptr _ _ _|(apply Ren.pure;(first|exact Q4.out|exact Qe.out|assumption))|exact Qf|apply Q7|apply Qm|apply Qv)) (by repeat' (first|exact Ji|(apply Yj;(· first|exact rfl|exact congrArg (λ l=>some (Box.mk l _ _ _)) hset);(· (exact Q6.out)))|(apply Jh;exact rfl)|exact Qf|apply Q7|exact Ren.sl _ _ _ _|exact Ren.ptr _ _ _|(apply Ren.pure;(first|exact Q4.out|exact Qe.out|assumption))|apply Qm)) (by repeat' (first|exact lowE_nil|apply Ye|exact Low.sl _ _ _ _ (by decide)|exact Low.ptr _ _ _ (by decide)|(apply Low.pure;(first|exact Q4.out|exact Qe.out|assumption))|exact J0|apply Qq|apply U3|apply U2)) (by repeat' (first|exact Jc|apply J1|(apply Uf.low;(exact Q6.out))|apply Ju|exact Jv|exact J0|apply Qq|exact Low.sl _ _ _ _ (by decide)|exact Low.ptr _ _ _ (by decide)|(apply Low.pure;(first|exact Q4.out|exact Qe.out|assumption))))) (by omega) (by omega)
theorem l1Put_cr (n:Int) (N:Nat):CR Tryz.prog 172 [.int .i64 n] [] N (Is (.sl N 0 7 7) [(N,some ⟨bA (putN n),1,true,false⟩)] (N + 1)) :=
 CR.allN (l1Put_cr0 n) N (by first|exact Q4.out|exact Qe.out|assumption) (by repeat' (first|exact Ren.sl _ _ _ _|exact Ren.ptr _ _ _|exact Qf|apply Q7|(apply Ren.pure;(first|exact Q4.out|exact Qe.out|assumption))|apply Qm|apply Qv)) (by repeat' (first|exact Jn|(apply Ja;exact rfl;(· (exact Q6.out)))|(apply Jm;exact rfl)|exact Qf|apply Q7|exact Ren.sl _ _ _ _|exact Ren.ptr _ _ _|(apply Ren.pure;(first|exact Q4.out|exact Qe.out|assumption))|apply Qm))
end Go.Proofs.YtaolmfgpebncjaaGreat
