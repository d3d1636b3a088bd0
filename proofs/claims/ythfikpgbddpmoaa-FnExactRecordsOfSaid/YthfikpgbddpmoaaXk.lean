/- Records read, by value. -/
import Derived.Test.YthfikpgbddpmoaaXj
set_option maxRecDepth 100000
set_option maxHeartbeats 3200000
set_option linter.unusedSimpArgs false
set_option linter.unusedVariables false
namespace Go.Proofs.Ythfikpgbddpmoaa
open Go.Av
attribute [local irreducible] T thenQ blockQ againQ againS WX retV retR Gt Gts GtsP okCells CV CR Av.Pure
attribute [local irreducible] sha

theorem frame_cv (p : List UInt8) (h : p.length ≤ 100000) : CV Try.prog 156 [sl1 (bA p)] (· = sl1 (bA (frameL p))) := CR.byVal (frame_cr p h 0) (bA_length _).symm (pureB_bA _)

theorem l10Frame_cv (p : List UInt8) (h : p.length ≤ 100000) : CV Try.prog 82 [sl1 (bA p)] (· = sl1 (bA (frameL p))) := CR.byVal (l10Frame_cr p h 0) (bA_length _).symm (pureB_bA _)

theorem bytesClone_cv (p : List UInt8) (h : p.length ≤ 1073741824) : CV Try.prog 150 [sl1 (bA p)] (· = sl1 (bA p)) := CR.byVal (bytesClone_cr p h 0) (bA_length _).symm (pureB_bA _)

def recPay (d : List UInt8) (k : Nat) : List UInt8 := (d.drop (k + 1)).take (d.getD k 0).toNat
def recIs (d : List UInt8) (k : Nat) : Bool :=
  decide (1 ≤ (d.getD k 0).toNat) && decide ((d.getD k 0).toNat ≤ 60) && decide (k + (d.getD k 0).toNat + 5 ≤ d.length) && decide ((d.drop k).take ((d.getD k 0).toNat + 5) = frameL (recPay d k))
def rdSt (d : List UInt8) : Nat → List (List UInt8) × Nat
  | 0 => ([], 0)
  | k + 1 => if (rdSt d k).2 < d.length ∧ recIs d (rdSt d k).2 = true then ((rdSt d k).1 ++ [recPay d (rdSt d k).2], (rdSt d k).2 + (d.getD (rdSt d k).2 0).toNat + 5) else rdSt d k
def readRs (d : List UInt8) : List (List UInt8) := (rdSt d d.length).1
def readAt (d : List UInt8) : Nat := (rdSt d d.length).2

theorem rd_next {d : List UInt8} {k : Nat} (h : (rdSt d k).2 < d.length) (h2 : recIs d (rdSt d k).2 = true) : rdSt d (k + 1) = ((rdSt d k).1 ++ [recPay d (rdSt d k).2], (rdSt d k).2 + (d.getD (rdSt d k).2 0).toNat + 5) := by
  rw [rdSt, if_pos ⟨h, h2⟩]
theorem rd_stop {d : List UInt8} {k : Nat} (h : ¬ ((rdSt d k).2 < d.length ∧ recIs d (rdSt d k).2 = true)) : ∀ j, rdSt d (k + j) = rdSt d k
  | 0 => rfl
  | j + 1 => by
    rw [← Nat.add_assoc, rdSt, rd_stop h j, if_neg h]
theorem recIs_ok {d : List UInt8} {k : Nat} (h : recIs d k = true) : 1 ≤ (d.getD k 0).toNat ∧ (d.getD k 0).toNat ≤ 60 ∧ k + (d.getD k 0).toNat + 5 ≤ d.length ∧ (d.drop k).take ((d.getD k 0).toNat + 5) = frameL (recPay d k) := by
  unfold recIs at h
  simpa [and_assoc] using h
theorem recPay_length {d : List UInt8} {k : Nat} (h : k + (d.getD k 0).toNat + 5 ≤ d.length) : (recPay d k).length = (d.getD k 0).toNat := by
  unfold recPay; rw [List.length_take, List.length_drop]; omega
theorem rd_le (d : List UInt8) : ∀ k, (rdSt d k).2 ≤ d.length ∧ (rdSt d k).1.length ≤ (rdSt d k).2
  | 0 => by simp [rdSt]
  | k + 1 => by
    have ih := rd_le d k
    rw [rdSt]
    split
    · rename_i h
      have := recIs_ok h.2
      simp only [List.length_append, List.length_cons, List.length_nil]
      omega
    · exact ih
theorem rd_end {d : List UInt8} {k : Nat} (h : ¬ ((rdSt d k).2 < d.length ∧ recIs d (rdSt d k).2 = true)) (hk : k ≤ d.length) : (readRs d, readAt d) = rdSt d k := by
  have := rd_stop h (d.length - k)
  rw [show k + (d.length - k) = d.length by omega] at this
  unfold readRs readAt
  rw [this]

theorem drop_bA (d : List UInt8) (k n : Nat) : List.take n (List.drop k (bA d)) = bA ((d.drop k).take n) := by simp [bA]

theorem readRecords_cv (d : List UInt8) (hd : d.length ≤ 1073741824) : CV Try.prog 90 [sl1 (bA d)] (· = .tup [sl1 ((readRs d).map byA), .int .i64 (readAt d : Int)]) := by
  refine CV_intro tyOk Try.func90 (by kernel_rfl) rfl 57 rfl (by simp) [.tmp 2, .tmp 3] rfl ?_
  intro w0 ok0
  have hl := bA_length d
  repeat' (first | refine T_seq ?_ | refine N_then ?_ | refine T_regX tyOk ?_ | refine S_nil ?_ | refine T_block ?_ | apply S_assign | (apply S_buildL tyOk; (· exact rfl); (· exact rfl); (· exact rfl)) | (dsimp only; omega) | exact gtsI_nil | exact elts_nil | exact gt_any rfl | exact rfl | fail)
  refine T_roundsS (α := Nat) (fun k => ⟨[(0, sl1 (bA d)), (4, .sl 0 0 (rdSt d k).1.length (rdSt d k).1.length), (5, .int .i64 ((rdSt d k).2 : Int))], [(0, some ⟨(rdSt d k).1.map byA, 1, true, false⟩)], 1⟩)
    (fun k => d.length - (rdSt d k).2) (fun k => k ≤ (rdSt d k).2) 0 ((weak_of (by repeat' (first | exact keepE_nil | refine keepE_cons rfl ?_)) (by repeat' (first | exact keepB_nil | refine keepB_cons (by first | rfl | exact congrArg (fun l => some (Box.mk l _ _ _)) hset) ?_)) (Nat.le_refl _))).sub (by exact Nat.zero_le _) ?_
  intro k hk
  obtain ⟨hle, hcnt⟩ := rd_le d k
  have hend := fun h => rd_end (d := d) (k := k) h (by omega)
  have hnx := fun h1 h2 => rd_next (d := d) (k := k) h1 h2
  have hml : ((rdSt d k).1.map byA).length = (rdSt d k).1.length := by simp
  generalize hacc : (rdSt d k).1 = acc at *
  generalize hat : (rdSt d k).2 = a at *
  by_cases h1 : a < d.length
  · have c1 : decide ((a : Int) < ((bA d).length : Int)) = true := by simp only [decide_eq_true_eq]; omega
    have hget := bA_getD d h1
    have hb := UInt8.toNat_lt (d.getD a 0)
    have w0 : IntKind.wrap .i64 (((d.getD a 0).toNat : Int)) = ((d.getD a 0).toNat : Int) := wrap_i64 (by omega) (by omega)
    have w1 : IntKind.wrap .i64 ((a : Int) + 1) = ((a + 1 : Nat) : Int) := by rw [wrap_i64 (by omega) (by omega)]; omega
    have w2 : IntKind.wrap .i64 (((a + 1 : Nat) : Int) + ((d.getD a 0).toNat : Int)) = ((a + 1 + (d.getD a 0).toNat : Nat) : Int) := by rw [wrap_i64 (by omega) (by omega)]; omega
    have w3 : IntKind.wrap .i64 (((a + 1 + (d.getD a 0).toNat : Nat) : Int) + 4) = ((a + (d.getD a 0).toNat + 5 : Nat) : Int) := by rw [wrap_i64 (by omega) (by omega)]; omega
    by_cases h2 : 1 ≤ (d.getD a 0).toNat ∧ (d.getD a 0).toNat ≤ 60
    · have c2 : (!(decide ((1 : Int) ≤ ((d.getD a 0).toNat : Int)) && decide (((d.getD a 0).toNat : Int) ≤ 60))) = false := by rw [decide_eq_true (by omega), decide_eq_true (by omega)]; rfl
      by_cases h3 : a + (d.getD a 0).toNat + 5 ≤ d.length
      · have c3 : decide (((bA d).length : Int) < ((a + (d.getD a 0).toNat + 5 : Nat) : Int)) = false := by simp only [decide_eq_false_iff_not]; omega
        have hp := recPay_length h3
        have t1 : List.take (a + 1 + (d.getD a 0).toNat - (a + 1)) (List.drop (a + 1) (bA d)) = bA (recPay d a) := by rw [drop_bA, Nat.add_sub_cancel_left]; rfl
        have t2 : List.take (a + (d.getD a 0).toNat + 5 - a) (List.drop a (bA d)) = bA ((d.drop a).take ((d.getD a 0).toNat + 5)) := by rw [drop_bA, show a + (d.getD a 0).toNat + 5 - a = (d.getD a 0).toNat + 5 by omega]
        have f0 := frame_cv (recPay d a) (by omega)
        have f1 := equal_cv ((d.drop a).take ((d.getD a 0).toNat + 5)) (frameL (recPay d a))
        by_cases h4 : (d.drop a).take ((d.getD a 0).toNat + 5) = frameL (recPay d a)
        · have c4 : (!decide ((d.drop a).take ((d.getD a 0).toNat + 5) = frameL (recPay d a))) = false := by simpa using h4
          have hre : recIs d a = true := by unfold recIs; rw [decide_eq_true h2.1, decide_eq_true h2.2, decide_eq_true h3, decide_eq_true h4]; rfl
          have f2 := bytesClone_cv (recPay d a) (by omega)
          have hn := hnx h1 hre
          have hset : acc.map byA ++ [byA (recPay d a)] = (rdSt d (k + 1)).1.map byA := by rw [hn]; simp
          have hln : acc.length + 1 = (rdSt d (k + 1)).1.length := by rw [hn]; simp
          have han : a + (d.getD a 0).toNat + 5 = (rdSt d (k + 1)).2 := by rw [hn]
          generalize (d.drop a).take ((d.getD a 0).toNat + 5) = fr at *
          repeat' (first | refine T_seq ?_ | refine N_then ?_ | refine N_block ?_ | refine T_regX tyOk ?_ | (apply T_drawM (id := 7) 6 tyOk mixed; (· exact rfl); (· exact rfl); (· kernel_rfl); (· exact Nat.le_of_ble_eq_true rfl)) | refine S_nil ?_ | refine T_skip ?_ | refine T_block ?_ | (apply T_ifT; (· exact rfl); (· (first | assumption | exact rfl))) | (apply T_ifF; (· exact rfl); (· (first | assumption | exact rfl))) | (apply S_gf; (· exact rfl); (· exact rfl); (· (first | assumption | exact rfl))) | apply S_move | apply S_assign | (apply S_pickF; (· exact gt_any rfl); (· (first | assumption | exact rfl))) | (apply S_loadV; (· exact rfl); (· exact gt_any rfl); (· exact rfl); (· (first | exact ⟨rfl, rfl⟩ | exact ⟨rfl, trivial⟩ | assumption))) | apply S_lss | apply S_gtr | apply S_add | apply S_not | (apply S_conv; (· exact rfl); (· exact rfl); (· exact gt_any rfl)) | (apply S_len_ls; (· exact rfl); (· exact gt_any rfl)) | (apply S_idxLs; (· exact rfl); (· exact rfl); (· exact gt_any rfl); (· exact gt_any rfl)) | (apply M_appB; (· exact rfl); (· exact rfl); (· exact gt_any rfl)) | (apply S_buildL tyOk; (· exact rfl); (· exact rfl); (· exact rfl)) | (apply M_slLs; (· exact rfl); (· exact rfl); (· exact gt_any rfl); (· exact rfl)) | apply S_call (f := 156) | apply f0 | apply S_call (f := 141) | apply f1 | apply S_call (f := 150) | apply f2 | apply S_callQ (f := 86) | apply in_cv | exact viewL_nil | apply viewL_cons | (apply View.pure; exact PureC.out) | (apply mtake; first | assumption | exact take_full (by first | rfl | (simp; done)) | exact rfl) | exact FlatC.out | exact PureLC.out | (apply mlen; first | exact rfl | assumption | exact Nat.le_of_ble_eq_true rfl | omega | (simp [bA_length]; done) | (simp [bA_length]; omega)) | (apply msz; first | assumption | exact Nat.le_of_ble_eq_true rfl | (dsimp only; simp only [List.length_append, List.length_map, List.length_cons, List.length_nil, bA_length, List.length_take, List.length_drop, List.length_replicate] at *; omega) | (dsimp only; omega)) | (apply mnorm; first | with_reducible exact app_nil0 _ | exact app_norm _ _ | exact rfl) | (apply mtake; first | assumption | exact take_full (by first | rfl | (simp; done)) | exact rfl) | (apply src_sl; (· exact rfl); (· exact rfl); (· exact rfl)) | (dsimp only; omega) | (apply mnat; first | exact Int.toNat_natCast _ | exact rfl) | (apply bd_at; (· exact gt_any rfl)) | exact gtsI_nil | (apply gtsI_cons; (· exact gt_any rfl)) | exact elts_nil | apply elts_cons | (intro hu; cases hu; done) | exact gt_any rfl | exact gts_nil | (apply gts_cons; (· exact gt_any rfl)) | exact okCells_of rfl rfl | assumption | (refine ⟨?_, ?_⟩ <;> omega) | omega | exact rfl | fail)
          rw [han]
          exact N_againS (k + 1) (sub_names [(0, 2)] (k0 := 0) rfl (by rfl) (by repeat' (first | exact pullE_nil | (apply pullE_cons; (· exact rfl)) | exact Ren.sl _ _ _ _ | (apply ren_slE; (· first | exact rfl | omega); (· first | exact rfl | assumption | (simp [bA_length]; done) | (simp [bA_length]; omega)); (· first | exact rfl | assumption | (simp [bA_length]; done) | (simp [bA_length]; omega))) | exact Ren.ptr _ _ _ | (apply Ren.pure; (first | exact PureC.out | exact PureLC.out | assumption)) | exact renL_nil | apply renL_cons | apply ren_agg | apply ren_tup)) (by repeat' (first | exact pullB_nil | (apply pullB_pure; (· first | exact rfl | exact congrArg (fun l => some (Box.mk l _ _ _)) hset); (· (exact PureEC.out))) | (apply pullB_one; (· exact rfl)) | exact renL_nil | apply renL_cons | exact Ren.sl _ _ _ _ | exact Ren.ptr _ _ _ | (apply Ren.pure; (first | exact PureC.out | exact PureLC.out | assumption)) | apply ren_agg)) (by repeat' (first | exact lowE_nil | apply lowE_cons | exact Low.sl _ _ _ _ (by decide) | exact Low.ptr _ _ _ (by decide) | (apply Low.pure; (first | exact PureC.out | exact PureLC.out | assumption)) | exact lowL_nil | apply lowL_cons | apply low_agg | apply low_tup)) (by repeat' (first | exact lowBs_nil | apply lowBs_cons | (apply PureB.low; (exact PureEC.out)) | apply lowX_one | exact lowX_nil | exact lowL_nil | apply lowL_cons | exact Low.sl _ _ _ _ (by decide) | exact Low.ptr _ _ _ (by decide) | (apply Low.pure; (first | exact PureC.out | exact PureLC.out | assumption))))) (by omega) (by omega)
        · have c4 : (!decide ((d.drop a).take ((d.getD a 0).toNat + 5) = frameL (recPay d a))) = true := by simpa using h4
          have hre : ¬ (a < d.length ∧ recIs d a = true) := fun h => h4 (recIs_ok h.2).2.2.2
          have he := hend hre
          have he1 : readRs d = acc := by have := congrArg Prod.fst he; simpa [hacc] using this
          have he2 : readAt d = a := by have := congrArg Prod.snd he; simpa [hat] using this
          rw [he1, he2]
          repeat' (first | refine T_seq ?_ | refine N_then ?_ | refine N_thenE ?_ | refine N_blockE ?_ | refine N_blockX rfl ?_ | refine N_againSE ?_ | refine T_regX tyOk ?_ | (apply T_drawM (id := 7) 6 tyOk mixed; (· exact rfl); (· exact rfl); (· kernel_rfl); (· exact Nat.le_of_ble_eq_true rfl)) | refine S_nil ?_ | refine T_skip ?_ | refine T_ret ?_ | refine T_exit ?_ | refine T_block ?_ | (apply E_X <;> repeat' (first | exact resL_nil | (apply resL_tmp; (· exact rfl)) | (apply resL_cell; (· exact rfl); (· exact rfl); (· exact rfl); (· exact rfl); (· exact rfl); (· exact rfl)) | (apply resL_arr; (· exact rfl); (· exact rfl); (· exact rfl); (· exact rfl); (· (first | assumption | exact rfl))) | exact viewL_nil | apply viewL_cons | apply view_nothingE | (apply view_slE; (· exact rfl); (· first | exact rfl | assumption | (simp [bA_length]; done) | (simp [bA_length]; omega) | omega); (· exact PureEC.out)) | (apply view_loose; (· exact PureEC.out)) | apply view_agg | apply view_tup | (apply View.ofEq; (· exact PureC.out)) | exact rfl)) | (apply T_ifT; (· exact rfl); (· (first | assumption | exact rfl))) | (apply T_ifF; (· exact rfl); (· (first | assumption | exact rfl))) | (apply S_gf; (· exact rfl); (· exact rfl); (· (first | assumption | exact rfl))) | apply S_move | apply S_assign | (apply S_pickF; (· exact gt_any rfl); (· (first | assumption | exact rfl))) | (apply S_loadV; (· exact rfl); (· exact gt_any rfl); (· exact rfl); (· (first | exact ⟨rfl, rfl⟩ | exact ⟨rfl, trivial⟩ | assumption))) | apply S_lss | apply S_gtr | apply S_add | apply S_not | (apply S_conv; (· exact rfl); (· exact rfl); (· exact gt_any rfl)) | (apply S_len_ls; (· exact rfl); (· exact gt_any rfl)) | (apply S_idxLs; (· exact rfl); (· exact rfl); (· exact gt_any rfl); (· exact gt_any rfl)) | (apply M_slLs; (· exact rfl); (· exact rfl); (· exact gt_any rfl); (· exact rfl)) | apply S_call (f := 156) | apply f0 | apply S_call (f := 141) | apply f1 | apply S_callQ (f := 86) | apply in_cv | exact viewL_nil | apply viewL_cons | (apply View.pure; exact PureC.out) | (apply mtake; first | assumption | exact take_full (by first | rfl | (simp; done)) | exact rfl) | exact FlatC.out | exact PureLC.out | (apply mlen; first | exact rfl | assumption | exact Nat.le_of_ble_eq_true rfl | omega | (simp [bA_length]; done) | (simp [bA_length]; omega)) | (apply mtake; first | assumption | exact take_full (by first | rfl | (simp; done)) | exact rfl) | (apply mnat; first | exact Int.toNat_natCast _ | exact rfl) | (apply bd_at; (· exact gt_any rfl)) | exact gt_any rfl | exact gts_nil | (apply gts_cons; (· exact gt_any rfl)) | assumption | (refine ⟨?_, ?_⟩ <;> omega) | omega | exact rfl | fail)
      · have c3 : decide (((bA d).length : Int) < ((a + (d.getD a 0).toNat + 5 : Nat) : Int)) = true := by simp only [decide_eq_true_eq]; omega
        have hre : ¬ (a < d.length ∧ recIs d a = true) := fun h => h3 (recIs_ok h.2).2.2.1
        have he := hend hre
        have he1 : readRs d = acc := by have := congrArg Prod.fst he; simpa [hacc] using this
        have he2 : readAt d = a := by have := congrArg Prod.snd he; simpa [hat] using this
        rw [he1, he2]
        repeat' (first | refine T_seq ?_ | refine N_then ?_ | refine N_thenE ?_ | refine N_blockE ?_ | refine N_blockX rfl ?_ | refine N_againSE ?_ | refine T_regX tyOk ?_ | refine S_nil ?_ | refine T_skip ?_ | refine T_ret ?_ | refine T_exit ?_ | refine T_block ?_ | (apply E_X <;> repeat' (first | exact resL_nil | (apply resL_tmp; (· exact rfl)) | (apply resL_cell; (· exact rfl); (· exact rfl); (· exact rfl); (· exact rfl); (· exact rfl); (· exact rfl)) | (apply resL_arr; (· exact rfl); (· exact rfl); (· exact rfl); (· exact rfl); (· (first | assumption | exact rfl))) | exact viewL_nil | apply viewL_cons | apply view_nothingE | (apply view_slE; (· exact rfl); (· first | exact rfl | assumption | (simp [bA_length]; done) | (simp [bA_length]; omega) | omega); (· exact PureEC.out)) | (apply view_loose; (· exact PureEC.out)) | apply view_agg | apply view_tup | (apply View.ofEq; (· exact PureC.out)) | exact rfl)) | (apply T_ifT; (· exact rfl); (· (first | assumption | exact rfl))) | (apply S_gf; (· exact rfl); (· exact rfl); (· (first | assumption | exact rfl))) | apply S_move | apply S_assign | (apply S_pickF; (· exact gt_any rfl); (· (first | assumption | exact rfl))) | (apply S_loadV; (· exact rfl); (· exact gt_any rfl); (· exact rfl); (· (first | exact ⟨rfl, rfl⟩ | exact ⟨rfl, trivial⟩ | assumption))) | apply S_lss | apply S_gtr | apply S_add | apply S_not | (apply S_conv; (· exact rfl); (· exact rfl); (· exact gt_any rfl)) | (apply S_len_ls; (· exact rfl); (· exact gt_any rfl)) | (apply S_idxLs; (· exact rfl); (· exact rfl); (· exact gt_any rfl); (· exact gt_any rfl)) | apply S_callQ (f := 86) | apply in_cv | exact viewL_nil | apply viewL_cons | (apply View.pure; exact PureC.out) | exact FlatC.out | exact gt_any rfl | exact gts_nil | (apply gts_cons; (· exact gt_any rfl)) | assumption | (refine ⟨?_, ?_⟩ <;> omega) | exact rfl | fail)
    · have c2 : (!(decide ((1 : Int) ≤ ((d.getD a 0).toNat : Int)) && decide (((d.getD a 0).toNat : Int) ≤ 60))) = true := by
        generalize (d.getD a 0).toNat = z at *
        simp; omega
      have hre : ¬ (a < d.length ∧ recIs d a = true) := fun h => h2 ⟨(recIs_ok h.2).1, (recIs_ok h.2).2.1⟩
      have he := hend hre
      have he1 : readRs d = acc := by have := congrArg Prod.fst he; simpa [hacc] using this
      have he2 : readAt d = a := by have := congrArg Prod.snd he; simpa [hat] using this
      rw [he1, he2]
      repeat' (first | refine T_seq ?_ | refine N_then ?_ | refine N_thenE ?_ | refine N_blockE ?_ | refine N_blockX rfl ?_ | refine N_againSE ?_ | refine T_regX tyOk ?_ | refine S_nil ?_ | refine T_skip ?_ | refine T_ret ?_ | refine T_exit ?_ | refine T_block ?_ | (apply E_X <;> repeat' (first | exact resL_nil | (apply resL_tmp; (· exact rfl)) | (apply resL_cell; (· exact rfl); (· exact rfl); (· exact rfl); (· exact rfl); (· exact rfl); (· exact rfl)) | (apply resL_arr; (· exact rfl); (· exact rfl); (· exact rfl); (· exact rfl); (· (first | assumption | exact rfl))) | exact viewL_nil | apply viewL_cons | apply view_nothingE | (apply view_slE; (· exact rfl); (· first | exact rfl | assumption | (simp [bA_length]; done) | (simp [bA_length]; omega) | omega); (· exact PureEC.out)) | (apply view_loose; (· exact PureEC.out)) | apply view_agg | apply view_tup | (apply View.ofEq; (· exact PureC.out)) | exact rfl)) | (apply T_ifT; (· exact rfl); (· (first | assumption | exact rfl))) | (apply S_gfT'; (· exact rfl); (· exact rfl); (· exact rfl); (· (first | assumption | exact rfl))) | apply S_move | apply S_assign | (apply S_pickT; (· exact gt_any rfl); (· (first | assumption | exact rfl))) | (apply S_loadV; (· exact rfl); (· exact gt_any rfl); (· exact rfl); (· (first | exact ⟨rfl, rfl⟩ | exact ⟨rfl, trivial⟩ | assumption))) | apply S_lss | apply S_add | apply S_not | (apply S_conv; (· exact rfl); (· exact rfl); (· exact gt_any rfl)) | (apply S_len_ls; (· exact rfl); (· exact gt_any rfl)) | (apply S_idxLs; (· exact rfl); (· exact rfl); (· exact gt_any rfl); (· exact gt_any rfl)) | apply S_callQ (f := 86) | apply in_cv | exact viewL_nil | apply viewL_cons | (apply View.pure; exact PureC.out) | exact FlatC.out | exact gt_any rfl | exact gts_nil | (apply gts_cons; (· exact gt_any rfl)) | assumption | (refine ⟨?_, ?_⟩ <;> omega) | exact rfl | fail)
  · have c1 : decide ((a : Int) < ((bA d).length : Int)) = false := by simp only [decide_eq_false_iff_not]; omega
    have he := hend (fun h => h1 h.1)
    have he1 : readRs d = acc := by have := congrArg Prod.fst he; simpa [hacc] using this
    have he2 : readAt d = a := by have := congrArg Prod.snd he; simpa [hat] using this
    rw [he1, he2]
    repeat' (first | refine T_seq ?_ | refine N_then ?_ | refine N_thenE ?_ | refine N_blockE ?_ | refine N_againSE ?_ | refine T_regX tyOk ?_ | refine S_nil ?_ | refine T_ret ?_ | refine T_exit ?_ | (apply E_X <;> repeat' (first | exact resL_nil | (apply resL_tmp; (· exact rfl)) | (apply resL_cell; (· exact rfl); (· exact rfl); (· exact rfl); (· exact rfl); (· exact rfl); (· exact rfl)) | (apply resL_arr; (· exact rfl); (· exact rfl); (· exact rfl); (· exact rfl); (· (first | assumption | exact rfl))) | exact viewL_nil | apply viewL_cons | apply view_nothingE | (apply view_slE; (· exact rfl); (· first | exact rfl | assumption | (simp [bA_length]; done) | (simp [bA_length]; omega) | omega); (· exact PureEC.out)) | (apply view_loose; (· exact PureEC.out)) | apply view_agg | apply view_tup | (apply View.ofEq; (· exact PureC.out)) | exact rfl)) | (apply T_ifF; (· exact rfl); (· (first | assumption | exact rfl))) | apply S_move | apply S_assign | apply S_lss | (apply S_len_ls; (· exact rfl); (· exact gt_any rfl)) | exact gt_any rfl | exact rfl | fail)

end Go.Proofs.Ythfikpgbddpmoaa
