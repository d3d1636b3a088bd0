/- Words that are mixed. -/
import Derived.Test.YtaolmfgpebncjaaGreatWi
import Derived.Test.YtaolmfgpebncjaaGreatWk
import Derived.Test.YtaolmfgpebncjaaGreatWt
set_option maxRecDepth 100000
set_option maxHeartbeats 3200000
set_option linter.unusedSimpArgs false
set_option linter.unusedVariables false
namespace Go.Proofs.YtaolmfgpebncjaaGreat
open Go.Av
attribute [local irreducible] T thenQ blockQ againQ againS WX retV retR Gt Gts GtsP okCells CV CR Av.Pure

abbrev ldgB (id : Nat) (l : Ldg) : AV := .agg [.int .i64 l.kind, .int .i64 l.sent, .int .i64 l.settled, .int .i64 l.next, .sl id 0 l.done.length l.done.length, .int .i64 l.cap, .bool l.paused]
abbrev ledResB (id : Nat) (c : Int) (l : Ldg) (e : Evt) : AV := .agg [.int .i64 c, .int .i64 l.kind, .int .i64 l.sent, .int .i64 l.settled, .int .i64 l.next, .sl id 0 l.done.length l.done.length, .int .i64 l.cap, .bool l.paused, .int .i64 e.kind, .int .i64 e.nonce, .int .i64 e.amount, .str e.to]

theorem markInt64S_at (q : List Int) (k : Int) (sl : Bool) (hb : q.length ≤ 1073741824) (h0 : 0 ≤ k) (h1 : k ≤ 1152921504606846976) (id N : Nat) (hid : id < N) :
    CR Tryz.prog 63 [.sl id 0 q.length q.length, .int .i64 k] [(id, some ⟨q.map numA, 1, sl, false⟩)] N (Is (.int .i64 (k + q.length)) [(id, some ⟨(marksI k q.length).map numA, 1, sl, false⟩)] N) :=
  (CR.toI (markInt64S_cr q k sl hb h0 h1) [id] rfl (by simp [*] <;> omega) _ (by simp [*] <;> omega) (by repeat' (first | exact Ren.sl _ _ _ _ | exact Ren.ptr _ _ _ | exact renL_nil | apply renL_cons | (apply Ren.pure; exact PureC.out) | apply ren_agg | apply ren_tup | exact renBs_nil | (apply renBs_pure; (· exact rfl); (· exact PureEC.out)) | (apply renBs_one; (· exact rfl)))) (by repeat' (first | exact Ren.sl _ _ _ _ | exact Ren.ptr _ _ _ | exact renL_nil | apply renL_cons | (apply Ren.pure; exact PureC.out) | apply ren_agg | apply ren_tup | exact renBs_nil | (apply renBs_pure; (· exact rfl); (· exact PureEC.out)) | (apply renBs_one; (· exact rfl)))) (by omega) (by repeat' (first | exact Ren.sl _ _ _ _ | exact Ren.ptr _ _ _ | exact renL_nil | apply renL_cons | (apply Ren.pure; exact PureC.out) | apply ren_agg | apply ren_tup | exact renBs_nil | (apply renBs_pure; (· exact rfl); (· exact PureEC.out)) | (apply renBs_one; (· exact rfl)))) (by repeat' (first | exact Ren.sl _ _ _ _ | exact Ren.ptr _ _ _ | exact renL_nil | apply renL_cons | (apply Ren.pure; exact PureC.out) | apply ren_agg | apply ren_tup | exact renBs_nil | (apply renBs_pure; (· exact rfl); (· exact PureEC.out)) | (apply renBs_one; (· exact rfl)))))

abbrev ldgM (l : Ldg) (k : Int) : Ldg := ⟨l.kind, l.sent, l.settled, l.next, marksI k l.done.length, l.cap, l.paused⟩

def pzCode (l : Ldg) : Int := ledgerFault l
def pzLdg (l : Ldg) (p : Bool) : Ldg := if ledgerFault l = 0 then ⟨l.kind, l.sent, l.settled, l.next, l.done, l.cap, p⟩ else l0

end Go.Proofs.YtaolmfgpebncjaaGreat

set_option maxRecDepth 100000
set_option maxHeartbeats 3200000
set_option linter.unusedSimpArgs false
set_option linter.unusedVariables false
namespace Go.Proofs.YtaolmfgpebncjaaGreat
open Go.Av
attribute [local irreducible] T thenQ blockQ againQ againS WX retV retR Gt Gts GtsP okCells CV CR Av.Pure

abbrev arU (l : List UInt32) : AV := .agg (l.map u32A)
abbrev arW (l : List UInt32) : AV := .agg (l.map w64A)

theorem rotl_cv (x : UInt32) (n : Nat) (h0 : 0 < n) (h1 : n < 32) : CV Tryz.prog 192 [u32A x, .int .i64 (-(n : Int))] (· = u32A (rotr x n)) := by
  refine CV_intro tyOk Tryz.func192 (by kernel_rfl) rfl 17 rfl (by simp) [.tmp 4] rfl ?_
  intro w0 ok0
  have f1 := rot_cnt n h0 h1
  have f2 := rot_and ⟨n, h1⟩ h0
  simp only at f2
  have f3 : IntKind.wrap .u32 ((x.toNat : Int) * 2 ^ min ((32 : Int) - (n : Int)).toNat IntKind.u32.bits) = IntKind.wrap .u32 ((x.toNat : Int) * 2 ^ (32 - n)) := by
    rw [show ((32 : Int) - (n : Int)).toNat = 32 - n by omega, show IntKind.u32.bits = 32 from rfl, Nat.min_eq_left (by omega)]
  have f4 : IntKind.wrap .u64 (32 - (32 - (n : Int))) = (n : Int) := by rw [wrap_u64 (by omega) (by omega)]; omega
  have f5 : (x.toNat : Int).fdiv (2 ^ min ((n : Int)).toNat IntKind.u32.bits) = (x.toNat : Int).fdiv (2 ^ n) := by
    rw [Int.toNat_natCast, show IntKind.u32.bits = 32 from rfl, Nat.min_eq_left (by omega)]
  have f6 := rot_or x n h0 h1
  repeat' (first | refine T_seq ?_ | refine N_then ?_ | refine T_regX tyOk ?_ | refine S_nil ?_ | refine T_ret ?_ | (apply E_tmp; (· exact rfl); (· (repeat' (first | exact pure_int _ _ | exact pure_bool _ | exact pure_str _); done))) | apply S_move | apply S_assign | apply S_sub | (apply S_conv; (· exact rfl); (· exact rfl); (· exact gt_any rfl)) | apply S_shlW | apply S_shrW | (apply S_bits; (· (first | exact Or.inl rfl | exact Or.inr (Or.inl rfl) | exact Or.inr (Or.inr (Or.inl rfl)) | exact Or.inr (Or.inr (Or.inr rfl))))) | exact gt_any rfl | assumption | omega | exact rfl | fail)

theorem turn_cv (x : UInt32) (n : Nat) (h0 : 0 < n) (h1 : n < 32) : CV Tryz.prog 199 [u32A x, .int .i64 (n : Int)] (· = u32A (rotr x n)) := by
  refine CV_intro tyOk Tryz.func199 (by kernel_rfl) rfl 9 rfl (by simp) [.tmp 4] rfl ?_
  intro w0 ok0
  have c0 := rotl_cv x n h0 h1
  have f1 : IntKind.wrap .i64 (0 - (n : Int)) = -(n : Int) := by rw [wrap_i64 (by omega) (by omega)]; omega
  repeat' (first | refine T_seq ?_ | refine N_then ?_ | refine T_regX tyOk ?_ | refine S_nil ?_ | refine T_ret ?_ | (apply E_tmp; (· exact rfl); (· (repeat' (first | exact pure_int _ _ | exact pure_bool _ | exact pure_str _); done))) | (apply S_neg; (· exact gt_any rfl)) | apply S_move | apply S_assign | apply S_call (f := 192) | apply c0 | exact PureLC.out | exact gt_any rfl | exact gts_nil | (apply gts_cons; (· exact gt_any rfl)) | assumption | exact rfl | fail)

theorem list8 {l : List UInt32} (hl : l.length = 8) : ∃ a b c d e f g h, l = [a, b, c, d, e, f, g, h] := by
  match l, hl with
  | [a, b, c, d, e, f, g, h], _ => exact ⟨a, b, c, d, e, f, g, h, rfl⟩

theorem mixed_cv (l : List UInt32) (hl : l.length = 8) (w k : UInt32) : CV Tryz.prog 194 [arU l, u32A w, u32A k] (· = arU (mixL l w k)) := by
  obtain ⟨a, b, c, d, e, f, g, h, rfl⟩ := list8 hl
  refine CV_intro tyOk Tryz.func194 (by kernel_rfl) rfl 90 rfl (by simp) [.cell 6 175] rfl ?_
  intro w0 ok0
  have c6 := turn_cv e 6 (by decide) (by decide)
  have c11 := turn_cv e 11 (by decide) (by decide)
  have c25 := turn_cv e 25 (by decide) (by decide)
  have c2 := turn_cv a 2 (by decide) (by decide)
  have c13 := turn_cv a 13 (by decide) (by decide)
  have c22 := turn_cv a 22 (by decide) (by decide)
  have okk : okCells 8 (arU [a, b, c, d, e, f, g, h]) := okCells_arr _ _ rfl
  repeat' (first | refine T_seq ?_ | refine N_then ?_ | refine T_regX tyOk ?_ | (apply T_drawAll tyOk mixed; (· kernel_rfl)) | refine S_nil ?_ | refine T_ret ?_ | (apply E_X <;> repeat' (first | exact resL_nil | (apply resL_tmp; (· exact rfl)) | (apply resL_cell; (· exact rfl); (· exact rfl); (· exact rfl); (· exact rfl); (· exact rfl); (· exact rfl)) | (apply resL_arr; (· exact rfl); (· exact rfl); (· exact rfl); (· exact rfl); (· (first | assumption | exact rfl))) | (apply view_aggP; exact PureLC.out) | exact viewL_nil | apply viewL_cons | apply view_nothingE | (apply view_slE; (· exact rfl); (· first | exact rfl | assumption | (simp [bA_length]; done) | (simp [bA_length]; omega) | omega); (· exact PureEC.out)) | (apply view_loose; (· exact PureEC.out)) | apply view_agg | apply view_tup | (apply View.ofEq; (· exact PureC.out)) | exact rfl)) | (apply M_idxAP; (· exact rfl); (· exact rfl); (· exact gt_any rfl); (· exact gt_any rfl); (· (first | assumption | exact ⟨by omega, by omega⟩)); (· (apply mix; first | assumption | exact rfl))) | (apply M_loadAr; (· exact rfl); (· exact gt_any rfl); (· exact rfl); (· (first | assumption | exact rfl)); (· (first | exact ⟨rfl, rfl⟩ | exact ⟨rfl, trivial⟩ | assumption))) | (apply S_buildAL tyOk; (· exact rfl); (· exact rfl); (· exact rfl); (· exact rfl); (· repeat' (first | exact gtsI_nil | (apply gtsI_cons; (· exact gt_any rfl)))); (· exact rfl); (· infer_instance)) | apply S_move | apply S_assign | apply S_add | apply S_alloc | apply S_box | (apply S_store1; (· exact rfl); (· exact gt_any rfl); (· exact rfl); (· exact rfl); (· exact rfl); (· exact rfl)) | (apply S_bits; (· (first | exact Or.inl rfl | exact Or.inr (Or.inl rfl) | exact Or.inr (Or.inr (Or.inl rfl)) | exact Or.inr (Or.inr (Or.inr rfl))))) | apply S_xor1 | apply S_callQC | apply c6 | apply c11 | apply c25 | apply c2 | apply c13 | apply c22 | exact viewL_nil | apply viewL_cons | (apply View.pure; exact PureC.out) | exact FlatC.out | with_reducible apply Go.Av.u32_add | with_reducible apply Go.Av.u32_xor | with_reducible apply Go.Av.u32_and | with_reducible apply Go.Av.u32_not | exact gt_any rfl | exact gts_nil | (apply gts_cons; (· exact gt_any rfl)) | exact okCells_of rfl rfl | exact rfl | fail)

end Go.Proofs.YtaolmfgpebncjaaGreat
