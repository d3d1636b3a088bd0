/- Records that are laid are read in their order. -/
import Derived.Test.YthfikpgbddpmoaaYd
import Derived.Test.YthfikpgbddpmoaaWt
set_option maxRecDepth 100000
set_option maxHeartbeats 3200000
set_option linter.unusedSimpArgs false
set_option linter.unusedVariables false
namespace Go.Proofs.Ythfikpgbddpmoaa
open Go.Av
attribute [local irreducible] T thenQ blockQ againQ againS WX retV retR Gt Gts GtsP okCells CV CR Av.Pure
attribute [local irreducible] sha nextV payV readRs readAt frames frameL

theorem loose1' {a b : AV} (h : Loose a b) : ∀ (i : Nat) (x y : AV), ([a] : List AV)[i]? = some x → ([b] : List AV)[i]? = some y → Loose x y := fun i x y hx hy => by
  cases i with
  | zero => simp at hx hy; subst hx hy; exact h
  | succ i => simp at hx

theorem log0_loose : LooseE [.agg [.ls 0 true true [], .ls 0 true true []]] [logA [] []] := by
  refine ⟨⟨rfl, fun d hd => ?_, fun j c d hc hd => ?_⟩, trivial⟩
  · simp [AV.cells] at hd
    subst hd
    rfl
  · match j, hc, hd with
    | 0, hc, hd | 1, hc, hd =>
      obtain rfl := Option.some.inj hc
      obtain rfl := Option.some.inj hd
      exact loose_nil _ _ _ _
    | _ + 2, hc, _ => simp [AV.cells] at hc
theorem frames_nil : frames [] = [] := by unfold frames; rfl

theorem law_Logs (code : List UInt8) (hc : code.length ≤ 9223372036854775807) : CV Try.prog 3 [byA code] (· = .bool true) := by
  refine CV_intro tyOk Try.func3 (by kernel_rfl) rfl 91 rfl (by simp) [.tmp 2] rfl ?_
  intro w0 ok0
  have hbig := lwBig_cv code
  by_cases g : 1048576 < code.length
  · rw [decide_eq_true g] at hbig
    repeat' (first | refine T_seq ?_ | refine N_then ?_ | refine N_thenR ?_ | refine T_regX tyOk ?_ | refine S_nil ?_ | refine T_ret ?_ | (apply E_tmp; (· exact rfl); (· (repeat' (first | exact pure_int _ _ | exact pure_bool _ | exact pure_str _); done))) | (apply T_ifT; (· exact rfl); (· (first | assumption | exact rfl))) | apply S_move | apply S_assign | apply S_callQ (f := 13) | apply hbig | exact viewL_nil | apply viewL_cons | (apply View.pure; exact PureC.out) | exact FlatC.out | exact gt_any rfl | exact gts_nil | (apply gts_cons; (· exact gt_any rfl)) | exact rfl | fail)
  rw [decide_eq_false g] at hbig
  repeat' (first | refine T_seq ?_ | refine N_then ?_ | refine T_regX tyOk ?_ | refine S_nil ?_ | refine T_skip ?_ | refine T_block ?_ | (apply T_ifF; (· exact rfl); (· (first | assumption | exact rfl))) | apply S_move | apply S_assign | apply S_alloc | (apply S_store1; (· exact rfl); (· exact gt_any rfl); (· exact rfl); (· exact rfl); (· exact rfl); (· exact rfl)) | (apply S_build; (· exact rfl); (· exact rfl); (· exact rfl); (· (repeat' (first | exact gtsP_nil | exact gt_any rfl | apply gtsP_cons))); (· (repeat' (first | exact BuildR.nil _ | (apply BuildR.cons; (· exact rfl); (· exact rfl); (· exact rfl); (· exact rfl); (· (first | nofun | assumption)); (· (repeat' constructor))))))) | (apply S_buildL tyOk; (· exact rfl); (· exact rfl); (· exact rfl)) | apply S_callQ (f := 13) | apply hbig | exact viewL_nil | apply viewL_cons | (apply View.pure; exact PureC.out) | exact FlatC.out | (dsimp only; omega) | exact gtsI_nil | exact elts_nil | exact gt_any rfl | exact gts_nil | (apply gts_cons; (· exact gt_any rfl)) | exact okCells_of rfl rfl | exact rfl | fail)
  refine T_roundsS (α := Nat × List UInt8 × List UInt8 × List (List UInt8)) (fun s => ⟨[(0, byA code), (3, .ptr 0 0 0), (4, .sl 1 0 s.2.2.2.length s.2.2.2.length), (5, .int .i64 (s.1 : Int))], [(0, some ⟨[logA s.2.1 s.2.2.1], 2, false, false⟩), (1, some ⟨s.2.2.2.map byA, 1, true, false⟩)], 2⟩)
    (fun s => 6 - s.1) (fun s => s.1 ≤ 6 ∧ s.2.1 ++ s.2.2.1 = frames s.2.2.2 ∧ s.2.2.2.length ≤ s.1 ∧ ∀ p ∈ s.2.2.2, p.length ≠ 0 ∧ p.length ≤ 60) (0, [], [], []) ?_ ⟨by decide, frames_nil.symm, by decide, fun p hp => by cases hp⟩ ?_
  · refine Sub.trans (sub_loose (id := 0) (ys := [logA [] []]) rfl log0_loose) ((weak_of (by repeat' (first | exact keepE_nil | refine keepE_cons rfl ?_)) (by repeat' (first | exact keepB_nil | refine keepB_cons (by first | rfl | exact congrArg (fun l => some (Box.mk l _ _ _)) hset) ?_)) (Nat.le_refl _))).sub
  rintro ⟨k, a, b, ws⟩ ⟨hk, hab, hwl, hws⟩
  simp only at hk hab hwl hws ⊢
  have hbl : (ws.map byA).length = ws.length := by simp
  have hlen : a.length + b.length ≤ 65 * ws.length := by
    have h1 := frames_len ws fun p hp => (hws p hp).2
    have h2 := congrArg List.length hab
    rw [List.length_append] at h2
    omega
  by_cases hk6 : k < 6
  case neg =>
    have d0 : decide ((k : Int) < 6) = false := decide_eq_false (by omega)
    obtain ⟨r1, r2⟩ := frames_read ws hws
    have c0 := implRecordsOf_cv a b (by omega)
    rw [hab, r1, r2] at c0
    have hfl : (frames ws).length = a.length + b.length := by rw [← hab, List.length_append]
    have ha2 := bA_length a
    have hb2 := bA_length b
    have w0 : IntKind.wrap .i64 (((bA a).length : Int) + ((bA b).length : Int)) = ((frames ws).length : Int) := by rw [wrap_i64 (by omega) (by omega)]; omega
    have e1 : (!decide ((((ws.map byA).length : Nat) : Int) = ((ws.length : Nat) : Int))) = false := by rw [decide_eq_true (by omega)]; rfl
    have e2 : (!decide (((frames ws).length : Int) = ((frames ws).length : Int))) = false := by rw [decide_eq_true rfl]; rfl
    have hmt : (ws.map byA).take ws.length = ws.map byA := List.take_of_length_le (by omega)
    generalize frames ws = F at *
    repeat' (first | refine T_seq ?_ | refine N_then ?_ | refine N_thenE ?_ | refine N_blockE ?_ | refine N_againSE ?_ | refine T_regX tyOk ?_ | refine S_nil ?_ | refine T_skip ?_ | refine T_exit ?_ | refine T_block ?_ | (apply T_ifF; (· exact rfl); (· (first | assumption | exact rfl))) | (apply S_gf; (· exact rfl); (· exact rfl); (· (first | assumption | exact rfl))) | apply S_move | apply S_assign | (apply S_pickF; (· exact gt_any rfl); (· (first | assumption | exact rfl))) | (apply S_loadP; (· exact rfl); (· exact gt_any rfl); (· exact rfl); (· exact rfl); (· exact rfl); (· (first | exact ⟨rfl, rfl⟩ | exact ⟨rfl, trivial⟩ | assumption))) | (apply S_loadW; (· exact rfl); (· exact gt_any rfl); (· exact rfl); (· exact rfl); (· exact rfl); (· exact rfl); (· exact rfl); (· exact rfl)) | (apply S_fieldP; (· exact rfl); (· exact rfl); (· exact rfl); (· exact rfl); (· exact gt_any rfl)) | apply S_lss | (apply S_neq; (· exact gt_any rfl); (· exact gt_any rfl)) | apply S_add | (apply S_len_ls; (· exact rfl); (· exact gt_any rfl)) | (apply S_len_sl; (· exact rfl); (· exact gt_any rfl)) | apply S_alloc | (apply S_store1; (· exact rfl); (· exact gt_any rfl); (· exact rfl); (· exact rfl); (· exact rfl); (· exact rfl)) | apply S_call (f := 19) | apply c0 | exact PureLC.out | exact gt_any rfl | exact gts_nil | (apply gts_cons; (· exact gt_any rfl)) | exact okCells_of rfl rfl | assumption | exact rfl | fail)
    refine T_roundsS (α := Nat) (fun j => ⟨[(4, .sl 1 0 ws.length ws.length), (8, .ptr 2 0 0), (9, .int .i64 j)], [(1, some ⟨ws.map byA, 1, true, false⟩), (2, some ⟨[.agg [.int .i64 0, .int .i64 (F.length : Int), sl1 (ws.map byA)]], 3, false, false⟩)], 3⟩)
      (fun j => ws.length - j) (fun j => j ≤ ws.length) 0 ((weak_of (by repeat' (first | exact keepE_nil | refine keepE_cons rfl ?_)) (by repeat' (first | exact keepB_nil | refine keepB_cons (by first | rfl | exact congrArg (fun l => some (Box.mk l _ _ _)) hset) ?_)) (Nat.le_refl _))).sub (by omega) ?_
    intro j hj
    by_cases hjl : j < ws.length
    · have d1 : decide ((j : Int) < (ws.length : Int)) = true := decide_eq_true (by omega)
      have hget := map_getD byA ws [] (k := j) hjl
      have hgt : (ws.map byA)[0 + ((j : Int)).toNat]? = some (byA (ws.getD j [])) := by
        rw [Nat.zero_add, Int.toNat_natCast, List.getElem?_map, List.getD_eq_getElem?_getD, List.getElem?_eq_getElem hjl]; rfl
      generalize ws.getD j [] = p at *
      have c1 := lwBytes_cv p p
      rw [decide_eq_true rfl] at c1
      have e3 : (!true) = false := rfl
      have hw : IntKind.wrap .i64 ((j : Int) + 1) = ((j + 1 : Nat) : Int) := by rw [wrap_i64 (by omega) (by omega)]; omega
      repeat' (first | refine T_seq ?_ | refine N_then ?_ | refine N_block ?_ | refine T_regX tyOk ?_ | (apply T_drawM (id := 23) 9 tyOk mixed; (· exact rfl); (· exact rfl); (· kernel_rfl); (· exact Nat.le_of_ble_eq_true rfl)) | refine S_nil ?_ | refine T_skip ?_ | refine T_block ?_ | (apply M_loadP; (· exact rfl); (· exact gt_any rfl); (· exact rfl); (· (repeat' (first | assumption | apply get_set_same))); (· exact rfl); (· (first | exact ⟨rfl, rfl⟩ | exact ⟨rfl, trivial⟩ | assumption))) | (apply T_ifT; (· exact rfl); (· (first | assumption | exact rfl))) | (apply T_ifF; (· exact rfl); (· (first | assumption | exact rfl))) | apply S_move | apply S_assign | (apply S_loadP; (· exact rfl); (· exact gt_any rfl); (· exact rfl); (· exact rfl); (· exact rfl); (· (first | exact ⟨rfl, rfl⟩ | exact ⟨rfl, trivial⟩ | assumption))) | (apply S_loadV; (· exact rfl); (· exact gt_any rfl); (· exact rfl); (· (first | exact ⟨rfl, rfl⟩ | exact ⟨rfl, trivial⟩ | assumption))) | (apply S_fieldP; (· exact rfl); (· exact rfl); (· exact rfl); (· exact rfl); (· exact gt_any rfl)) | apply S_lss | apply S_add | apply S_not | (apply S_len_sl; (· exact rfl); (· exact gt_any rfl)) | (apply S_idxLs; (· exact rfl); (· exact rfl); (· exact gt_any rfl); (· exact gt_any rfl)) | (apply S_idxSl; (· exact rfl); (· exact rfl); (· exact gt_any rfl); (· exact rfl); (· exact gt_any rfl)) | apply S_callQ (f := 20) | apply c1 | exact viewL_nil | apply viewL_cons | (apply View.pure; exact PureC.out) | exact FlatC.out | exact gt_any rfl | exact gts_nil | (apply gts_cons; (· exact gt_any rfl)) | assumption | (refine ⟨?_, ?_⟩ <;> omega) | exact rfl | fail)
      exact N_againS (j + 1) ((weak_of (by repeat' (first | exact keepE_nil | refine keepE_cons rfl ?_)) (by repeat' (first | exact keepB_nil | refine keepB_cons (by first | rfl | exact congrArg (fun l => some (Box.mk l _ _ _)) hset) ?_)) (Nat.le_refl _))).sub (by omega) (by omega)
    · have d1 : decide ((j : Int) < (ws.length : Int)) = false := decide_eq_false (by omega)
      repeat' (first | refine T_seq ?_ | refine N_then ?_ | refine N_thenE ?_ | refine N_blockE ?_ | refine N_againSE ?_ | refine T_regX tyOk ?_ | refine S_nil ?_ | refine T_ret ?_ | refine T_exit ?_ | (apply E_tmp; (· exact rfl); (· (repeat' (first | exact pure_int _ _ | exact pure_bool _ | exact pure_str _); done))) | (apply T_ifF; (· exact rfl); (· (first | assumption | exact rfl))) | apply S_move | apply S_assign | apply S_lss | (apply S_len_sl; (· exact rfl); (· exact gt_any rfl)) | exact gt_any rfl | exact rfl | fail)
  have d0 : decide ((k : Int) < 6) = true := decide_eq_true (by omega)
  have hw : IntKind.wrap .i64 ((k : Int) + 1) = ((k + 1 : Nat) : Int) := by rw [wrap_i64 (by omega) (by omega)]; omega
  have hwb := byteOf_wrap (k : Int)
  have c0 := drawFrame_cv (byteOf (k : Int) :: code) (by simp; omega)
  have hv : [.int .u8 ((byteOf (k : Int)).toNat : Int)] ++ bA code = bA (byteOf (k : Int) :: code) := rfl
  rw [← hv] at c0
  have c0 : CV Try.prog 14 [.ls 1 (false && (bA code).isEmpty) false ([.int .u8 ((byteOf (k : Int)).toNat : Int)] ++ bA code)] (· = sl1 (bA (payV (byteOf (k : Int) :: code) 0))) := c0.args rfl (loose1' (loose_ls _ _ _ _))
  have hpl := payV_length (byteOf (k : Int) :: code) 0
  generalize payV (byteOf (k : Int) :: code) 0 = p at *
  have c1 := implAppendLog_cv a b p (by omega) (by omega) (by omega)
  have hlf : logFault a b = 0 := if_neg (by omega)
  by_cases hf : frCode p = 0
  case neg =>
    have hcode : apCode a b p = frCode p := by
      unfold apCode apIn
      rw [if_neg (fun q => q hlf), if_pos hf]
    rw [hcode] at c1
    have c2 := specFrameRecord_cv p (by omega)
    have e1 : (!decide (frCode p = 0)) = true := by rw [decide_eq_false hf]; rfl
    have e2 : (!decide (frCode p = frCode p)) = false := by rw [decide_eq_true rfl]; rfl
    generalize frCode p = fc at *
    generalize frOut p = fo at *
    repeat' (first | refine T_seq ?_ | refine N_then ?_ | refine N_thenE ?_ | refine N_blockE ?_ | refine T_regX tyOk ?_ | (apply T_drawAll tyOk mixed; (· kernel_rfl)) | refine S_nil ?_ | refine T_skip ?_ | refine T_exit ?_ | refine T_block ?_ | (apply T_ifT; (· exact rfl); (· (first | assumption | exact rfl))) | (apply T_ifF; (· exact rfl); (· (first | assumption | exact rfl))) | apply S_move | apply S_assign | (apply S_loadP; (· exact rfl); (· exact gt_any rfl); (· exact rfl); (· exact rfl); (· exact rfl); (· (first | exact ⟨rfl, rfl⟩ | exact ⟨rfl, trivial⟩ | assumption))) | (apply S_loadW; (· exact rfl); (· exact gt_any rfl); (· exact rfl); (· exact rfl); (· exact rfl); (· exact rfl); (· exact rfl); (· exact rfl)) | (apply M_field1; (· exact rfl); (· exact rfl); (· exact rfl); (· exact gt_any rfl); (· exact rfl); (· (first | exact ⟨rfl, rfl⟩ | exact ⟨rfl, trivial⟩ | assumption))) | (apply S_fieldP; (· exact rfl); (· exact rfl); (· exact rfl); (· exact rfl); (· exact gt_any rfl)) | apply S_lss | (apply S_neq; (· exact gt_any rfl); (· exact gt_any rfl)) | apply S_add | (apply S_conv; (· exact rfl); (· exact rfl); (· exact gt_any rfl)) | apply S_alloc | (apply S_store1; (· exact rfl); (· exact gt_any rfl); (· exact rfl); (· exact rfl); (· exact rfl); (· exact rfl)) | (apply M_appV; (· exact rfl); (· exact rfl); (· exact gt_any rfl)) | (apply S_buildV tyOk; (· exact rfl); (· exact rfl)) | apply S_call (f := 14) | apply c0 | apply S_call (f := 15) | apply c1 | apply S_call (f := 16) | apply c2 | exact PureLC.out | (apply msz; first | assumption | exact Nat.le_of_ble_eq_true rfl | (dsimp only; simp only [List.length_append, List.length_map, List.length_cons, List.length_nil, bA_length, List.length_take, List.length_drop, List.length_replicate] at *; omega) | (dsimp only; omega)) | (apply mnorm; first | with_reducible exact app_nil0 _ | exact app_norm _ _ | exact rfl) | exact Src.ls rfl rfl | (dsimp only; omega) | exact gtsI_nil | (apply gtsI_cons; (· exact gt_any rfl)) | exact elts_nil | apply elts_cons | (intro hu; cases hu; done) | exact gt_any rfl | exact gts_nil | (apply gts_cons; (· exact gt_any rfl)) | exact okCells_of rfl rfl | assumption | exact rfl | fail)
    exact N_againS (k + 1, a, b, ws) (sub_drop (by repeat' (first | exact keepE_nil | refine keepE_cons rfl ?_)) (by repeat' (first | exact keepB_nil | refine keepB_cons rfl ?_)) (by repeat' (first | exact lowE_nil | apply lowE_cons | exact Low.sl _ _ _ _ (by decide) | exact Low.ptr _ _ _ (by decide) | (apply Low.pure; (first | exact PureC.out | exact PureLC.out | assumption)) | exact lowL_nil | apply lowL_cons | apply low_agg | apply low_tup)) (by repeat' (first | exact lowB_nil | refine lowB_cons (by decide) (by (apply PureB.low; exact PureEC.out)) ?_)) (Nat.zero_le _)) ⟨by simp only; omega, hab, by simp only; omega, hws⟩ (by simp only; omega)
  have hpok := frCode_ok hf
  have hfl := frameL_length p
  have hin : apIn a b p = 0 := by unfold apIn; rw [if_neg (fun q => q hf), if_neg (by omega)]
  obtain ⟨q1, q2, q3⟩ := ap_ok hlf hin
  rw [q1, q2, q3] at c1
  have e1 : (!decide ((0 : Int) = 0)) = false := rfl
  have hset : ws.map byA ++ [byA p] = (ws ++ [p]).map byA := by simp
  have hwl2 : (ws ++ [p]).length = ws.length + 1 := by simp
  have hws2 : ∀ r ∈ ws ++ [p], r.length ≠ 0 ∧ r.length ≤ 60 := fun r hr => by
    rcases List.mem_append.1 hr with hr | hr
    · exact hws r hr
    · rw [List.mem_singleton.1 hr]; exact ⟨hpok.2, hpok.1⟩
  have hab2 : a ++ (b ++ frameL p) = frames (ws ++ [p]) := by rw [frames_snoc, ← hab, List.append_assoc]
  have c3 := lwAt_cv code k 2 (by omega) ⟨by decide, by decide⟩ (by omega)
  generalize hR : (if code.length = 0 then ((k * 7 : Nat) : Int) % 2 else (((code.getD (k % code.length) 0).toNat + k / code.length * 3 : Nat) : Int) % 2) = R at *
  generalize hB : b ++ frameL p = B at *
  have hBl : a.length + B.length ≤ 1000 := by rw [← hB, List.length_append]; omega
  by_cases hv0 : R = 0
  · have e3 := decide_eq_true hv0
    have hlf2 : logFault a B = 0 := if_neg (by omega)
    have hso : syncOut a B = a ++ B := if_pos hlf2
    have c4 := implSyncLog_cv a B (by omega) (by omega)
    rw [hlf2, hso] at c4
    generalize hAB : a ++ B = AB at *
    repeat' (first | refine T_seq ?_ | refine N_then ?_ | refine N_block ?_ | refine T_regX tyOk ?_ | refine S_nil ?_ | refine T_skip ?_ | refine T_block ?_ | (apply T_ifT; (· exact rfl); (· (first | assumption | exact rfl))) | (apply T_ifF; (· exact rfl); (· (first | assumption | exact rfl))) | apply S_move | apply S_assign | (apply S_loadP; (· exact rfl); (· exact gt_any rfl); (· exact rfl); (· exact rfl); (· exact rfl); (· (first | exact ⟨rfl, rfl⟩ | exact ⟨rfl, trivial⟩ | assumption))) | (apply S_loadW; (· exact rfl); (· exact gt_any rfl); (· exact rfl); (· exact rfl); (· exact rfl); (· exact rfl); (· exact rfl); (· exact rfl)) | (apply M_loadA; (· exact rfl); (· exact rfl); (· exact gt_any rfl); (· exact rfl); (· exact rfl); (· (repeat' constructor))) | (apply M_fieldA; (· exact rfl); (· exact rfl); (· exact rfl); (· exact rfl); (· exact gt_any rfl); (· (repeat' constructor))) | (apply S_fieldP; (· exact rfl); (· exact rfl); (· exact rfl); (· exact rfl); (· exact gt_any rfl)) | apply S_lss | (apply S_eql; (· exact gt_any rfl); (· exact gt_any rfl)) | (apply S_neq; (· exact gt_any rfl); (· exact gt_any rfl)) | apply S_add | (apply S_conv; (· exact rfl); (· exact rfl); (· exact gt_any rfl)) | apply S_alloc | (apply S_store1; (· exact rfl); (· exact gt_any rfl); (· exact rfl); (· exact rfl); (· exact rfl); (· exact rfl)) | (apply M_appB; (· exact rfl); (· exact rfl); (· exact gt_any rfl)) | (apply M_appV; (· exact rfl); (· exact rfl); (· exact gt_any rfl)) | (apply S_buildV tyOk; (· exact rfl); (· exact rfl)) | apply S_call (f := 14) | apply c0 | apply S_call (f := 15) | apply c1 | apply S_callQ (f := 17) | apply c3 | apply S_call (f := 18) | apply c4 | exact viewL_nil | apply viewL_cons | (apply View.pure; exact PureC.out) | exact FlatC.out | exact PureLC.out | (apply mlen; first | exact rfl | assumption | exact Nat.le_of_ble_eq_true rfl | omega | (simp [bA_length]; done) | (simp [bA_length]; omega)) | (apply msz; first | assumption | exact Nat.le_of_ble_eq_true rfl | (dsimp only; simp only [List.length_append, List.length_map, List.length_cons, List.length_nil, bA_length, List.length_take, List.length_drop, List.length_replicate] at *; omega) | (dsimp only; omega)) | (apply mnorm; first | with_reducible exact app_nil0 _ | exact app_norm _ _ | exact rfl) | exact Src.ls rfl rfl | (dsimp only; omega) | exact gtsI_nil | (apply gtsI_cons; (· exact gt_any rfl)) | exact elts_nil | apply elts_cons | (intro hu; cases hu; done) | exact gt_any rfl | exact gts_nil | (apply gts_cons; (· exact gt_any rfl)) | exact okCells_of rfl rfl | assumption | exact rfl | fail)
    refine N_againS (k + 1, AB, [], ws ++ [p]) ?_ ⟨by simp only; omega, by simp only [List.append_nil]; exact hab2, by simp only; omega, hws2⟩ (by simp only; omega)
    simp only
    rw [hwl2]
    exact (sub_names [(0, 0), (1, 3)] (k0 := 0) rfl (by rfl) (by repeat' (first | exact pullE_nil | (apply pullE_cons; (· exact rfl)) | exact Ren.sl _ _ _ _ | (apply ren_slE; (· first | exact rfl | omega); (· first | exact rfl | assumption | (simp [bA_length]; done) | (simp [bA_length]; omega)); (· first | exact rfl | assumption | (simp [bA_length]; done) | (simp [bA_length]; omega))) | exact Ren.ptr _ _ _ | (apply Ren.pure; (first | exact PureC.out | exact PureLC.out | assumption)) | exact renL_nil | apply renL_cons | apply ren_agg | apply ren_tup)) (by repeat' (first | exact pullB_nil | (apply pullB_pure; (· first | exact rfl | exact congrArg (fun l => some (Box.mk l _ _ _)) hset); (· (exact PureEC.out))) | (apply pullB_one; (· exact rfl)) | exact renL_nil | apply renL_cons | exact Ren.sl _ _ _ _ | exact Ren.ptr _ _ _ | (apply Ren.pure; (first | exact PureC.out | exact PureLC.out | assumption)) | apply ren_agg)) (by repeat' (first | exact lowE_nil | apply lowE_cons | exact Low.sl _ _ _ _ (by decide) | exact Low.ptr _ _ _ (by decide) | (apply Low.pure; (first | exact PureC.out | exact PureLC.out | assumption)) | exact lowL_nil | apply lowL_cons | apply low_agg | apply low_tup)) (by repeat' (first | exact lowBs_nil | apply lowBs_cons | (apply PureB.low; (exact PureEC.out)) | apply lowX_one | exact lowX_nil | exact lowL_nil | apply lowL_cons | exact Low.sl _ _ _ _ (by decide) | exact Low.ptr _ _ _ (by decide) | (apply Low.pure; (first | exact PureC.out | exact PureLC.out | assumption)))))
  · have e3 := decide_eq_false hv0
    repeat' (first | refine T_seq ?_ | refine N_then ?_ | refine N_block ?_ | refine T_regX tyOk ?_ | refine S_nil ?_ | refine T_skip ?_ | refine T_block ?_ | (apply T_ifT; (· exact rfl); (· (first | assumption | exact rfl))) | (apply T_ifF; (· exact rfl); (· (first | assumption | exact rfl))) | apply S_move | apply S_assign | (apply S_loadP; (· exact rfl); (· exact gt_any rfl); (· exact rfl); (· exact rfl); (· exact rfl); (· (first | exact ⟨rfl, rfl⟩ | exact ⟨rfl, trivial⟩ | assumption))) | (apply S_loadW; (· exact rfl); (· exact gt_any rfl); (· exact rfl); (· exact rfl); (· exact rfl); (· exact rfl); (· exact rfl); (· exact rfl)) | (apply M_loadA; (· exact rfl); (· exact rfl); (· exact gt_any rfl); (· exact rfl); (· exact rfl); (· (repeat' constructor))) | (apply S_fieldP; (· exact rfl); (· exact rfl); (· exact rfl); (· exact rfl); (· exact gt_any rfl)) | apply S_lss | (apply S_eql; (· exact gt_any rfl); (· exact gt_any rfl)) | (apply S_neq; (· exact gt_any rfl); (· exact gt_any rfl)) | apply S_add | (apply S_conv; (· exact rfl); (· exact rfl); (· exact gt_any rfl)) | apply S_alloc | (apply S_store1; (· exact rfl); (· exact gt_any rfl); (· exact rfl); (· exact rfl); (· exact rfl); (· exact rfl)) | (apply M_appB; (· exact rfl); (· exact rfl); (· exact gt_any rfl)) | (apply M_appV; (· exact rfl); (· exact rfl); (· exact gt_any rfl)) | (apply S_buildV tyOk; (· exact rfl); (· exact rfl)) | apply S_call (f := 14) | apply c0 | apply S_call (f := 15) | apply c1 | apply S_callQ (f := 17) | apply c3 | exact viewL_nil | apply viewL_cons | (apply View.pure; exact PureC.out) | exact FlatC.out | exact PureLC.out | (apply mlen; first | exact rfl | assumption | exact Nat.le_of_ble_eq_true rfl | omega | (simp [bA_length]; done) | (simp [bA_length]; omega)) | (apply msz; first | assumption | exact Nat.le_of_ble_eq_true rfl | (dsimp only; simp only [List.length_append, List.length_map, List.length_cons, List.length_nil, bA_length, List.length_take, List.length_drop, List.length_replicate] at *; omega) | (dsimp only; omega)) | (apply mnorm; first | with_reducible exact app_nil0 _ | exact app_norm _ _ | exact rfl) | exact Src.ls rfl rfl | (dsimp only; omega) | exact gtsI_nil | (apply gtsI_cons; (· exact gt_any rfl)) | exact elts_nil | apply elts_cons | (intro hu; cases hu; done) | exact gt_any rfl | exact gts_nil | (apply gts_cons; (· exact gt_any rfl)) | exact okCells_of rfl rfl | assumption | exact rfl | fail)
    refine N_againS (k + 1, a, B, ws ++ [p]) ?_ ⟨by simp only; omega, hab2, by simp only; omega, hws2⟩ (by simp only; omega)
    simp only
    rw [hwl2]
    exact (sub_names [(0, 0), (1, 3)] (k0 := 0) rfl (by rfl) (by repeat' (first | exact pullE_nil | (apply pullE_cons; (· exact rfl)) | exact Ren.sl _ _ _ _ | (apply ren_slE; (· first | exact rfl | omega); (· first | exact rfl | assumption | (simp [bA_length]; done) | (simp [bA_length]; omega)); (· first | exact rfl | assumption | (simp [bA_length]; done) | (simp [bA_length]; omega))) | exact Ren.ptr _ _ _ | (apply Ren.pure; (first | exact PureC.out | exact PureLC.out | assumption)) | exact renL_nil | apply renL_cons | apply ren_agg | apply ren_tup)) (by repeat' (first | exact pullB_nil | (apply pullB_pure; (· first | exact rfl | exact congrArg (fun l => some (Box.mk l _ _ _)) hset); (· (exact PureEC.out))) | (apply pullB_one; (· exact rfl)) | exact renL_nil | apply renL_cons | exact Ren.sl _ _ _ _ | exact Ren.ptr _ _ _ | (apply Ren.pure; (first | exact PureC.out | exact PureLC.out | assumption)) | apply ren_agg)) (by repeat' (first | exact lowE_nil | apply lowE_cons | exact Low.sl _ _ _ _ (by decide) | exact Low.ptr _ _ _ (by decide) | (apply Low.pure; (first | exact PureC.out | exact PureLC.out | assumption)) | exact lowL_nil | apply lowL_cons | apply low_agg | apply low_tup)) (by repeat' (first | exact lowBs_nil | apply lowBs_cons | (apply PureB.low; (exact PureEC.out)) | apply lowX_one | exact lowX_nil | exact lowL_nil | apply lowL_cons | exact Low.sl _ _ _ _ (by decide) | exact Low.ptr _ _ _ (by decide) | (apply Low.pure; (first | exact PureC.out | exact PureLC.out | assumption)))))

end Go.Proofs.Ythfikpgbddpmoaa
