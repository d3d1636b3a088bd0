/- Heads: ways and chains. -/
import Derived.Test.YtaolmfgpebncjaaGreatZt
set_option maxRecDepth 100000
set_option maxHeartbeats 3200000
set_option linter.unusedSimpArgs false
set_option linter.unusedVariables false
namespace Go.Proofs.YtaolmfgpebncjaaGreat
open Go.Av
attribute [local irreducible] T thenQ blockQ againQ againS WX retV retR Gt Gts GtsP okCells CV CR Av.Pure
attribute [local irreducible] sha zerosL lz8 hdD hdFault

def parI (hs : List Hd) (i : Nat) : Int := placeL ((hs.take i).map hdD) (hs.getD i Hd0).parent
theorem parI_range (hs : List Hd) (i : Nat) (h : i ≤ hs.length) : parI hs i = -1 ∨ (0 ≤ parI hs i ∧ parI hs i < i) := by
  have h1 := place_range ((hs.take i).map hdD) (hs.getD i Hd0).parent
  rw [List.length_map, List.length_take, Nat.min_eq_left h] at h1
  exact h1
def wayGo (hs : List Hd) : Nat → Nat → List Nat
  | 0, i => [i]
  | f + 1, i => if i = 0 then [0] else i :: wayGo hs f (parI hs i).toNat
def wayD (hs : List Hd) (i : Nat) : List Nat := wayGo hs i i
theorem wayGo_eq (hs : List Hd) : ∀ (f g i : Nat), i < hs.length → i ≤ f → i ≤ g → wayGo hs f i = wayGo hs g i
  | 0, 0, i, _, _, _ => rfl
  | 0, g + 1, i, _, h, _ => by
    obtain rfl : i = 0 := by omega
    rfl
  | f + 1, 0, i, _, _, h => by
    obtain rfl : i = 0 := by omega
    rfl
  | f + 1, g + 1, i, hl, h1, h2 => by
    rw [wayGo, wayGo]
    by_cases h0 : i = 0
    · rw [if_pos h0, if_pos h0]
    · rw [if_neg h0, if_neg h0]
      have := parI_range hs i (by omega)
      rw [wayGo_eq hs f g _ (by omega) (by omega) (by omega)]
theorem wayD_zero (hs : List Hd) : wayD hs 0 = [0] := rfl
theorem wayD_step (hs : List Hd) {i : Nat} (h : i < hs.length) (h0 : i ≠ 0) : wayD hs i = i :: wayD hs (parI hs i).toNat := by
  have h1 := parI_range hs i (by omega)
  unfold wayD
  obtain ⟨f, rfl⟩ : ∃ f, i = f + 1 := ⟨i - 1, by omega⟩
  rw [wayGo, if_neg h0, wayGo_eq hs f _ _ (by omega) (by omega) (Nat.le_refl _)]
theorem wayGo_le (hs : List Hd) : ∀ (f i : Nat), i < hs.length → (wayGo hs f i).length ≤ f + 1 ∧ ∀ j ∈ wayGo hs f i, j ≤ i
  | 0, i, _ => by simp [wayGo]
  | f + 1, i, hl => by
    rw [wayGo]
    split
    · simp
    · have h1 := parI_range hs i (by omega)
      obtain ⟨h2, h3⟩ := wayGo_le hs f (parI hs i).toNat (by omega)
      refine ⟨by simp; omega, fun j hj => ?_⟩
      rcases List.mem_cons.1 hj with rfl | hj
      · omega
      · have := h3 j hj; omega
theorem wayD_le (hs : List Hd) {i : Nat} (h : i < hs.length) : (wayD hs i).length ≤ i + 1 := (wayGo_le hs i i h).1
theorem wayD_mem (hs : List Hd) {i j : Nat} (h : i < hs.length) (hj : j ∈ wayD hs i) : j ≤ i := (wayGo_le hs i i h).2 j hj
theorem wayD_pos (hs : List Hd) (i : Nat) : 0 < (wayD hs i).length := by
  unfold wayD
  cases i with
  | zero => exact Nat.zero_lt_one
  | succ f => rw [wayGo]; split <;> simp

def Joined (hs : List Hd) : Prop := (∀ x ∈ hs, hdFault x = 0) ∧ ∀ i, 0 < i → i < hs.length → 0 ≤ parI hs i

attribute [local irreducible] wayD parI

theorem chainTo_cr0 (hs : List Hd) (i : Nat) (hJ : Joined hs) (hi : i < hs.length) (hl : hs.length ≤ 1000000) : CR Tryz.prog 58 [hdAS hs, .int .i64 (i : Int)] [] 0 (Is (.sl 0 0 (wayD hs i).length (wayD hs i).length) [(0, some ⟨(wayD hs i).reverse.map natA, 1, true, false⟩)] (0 + 1)) := by
  refine CR_introU tyOk Tryz.func58 (by kernel_rfl) rfl 24 rfl (by simp) [.tmp 4] rfl ?_
  intro w0 ok0 wr φ0
  have hml : (hs.map hdA).length = hs.length := by simp
  repeat' (first | refine T_seq ?_ | refine N_then ?_ | refine T_regX tyOk ?_ | refine S_nil ?_ | refine T_block ?_ | apply S_assign | (apply S_buildL tyOk (ps := []); (· exact rfl); (· exact rfl); (· exact rfl)) | (dsimp only; omega) | exact gtsI_nil | exact elts_nil | exact gt_any rfl | exact rfl | fail)
  refine T_roundsS (α := List Nat × Nat × Nat) (fun s => ⟨[(0, hdAS hs), (1, .int .i64 (s.2.1 : Int)), (5, .sl 0 0 s.2.2 s.2.2)], [(0, some ⟨s.1.map natA, 1, true, false⟩)], 1⟩)
    (fun s => s.2.1) (fun s => s.2.1 < hs.length ∧ s.2.2 + s.2.1 ≤ i ∧ s.1.length = s.2.2 ∧ wayD hs i = s.1 ++ wayD hs s.2.1) ([], i, 0) ((weak_of (by repeat' (first | exact keepE_nil | refine keepE_cons rfl ?_)) (by repeat' (first | exact keepB_nil | refine keepB_cons (by first | rfl | exact congrArg (fun l => some (Box.mk l _ _ _)) hset) ?_)) (Nat.le_refl _))).sub ⟨hi, by simp, rfl, rfl⟩ ?_
  rintro ⟨acc, c, n⟩ ⟨hc, hal, hn, hI⟩
  simp only at hc hal hn hI ⊢
  have hbl : (acc.map natA).length = n := by rw [List.length_map, hn]
  have hset : acc.map natA ++ [.int .i64 (c : Int)] = (acc ++ [c]).map natA := by simp
  by_cases h0 : c = 0
  · have d0 : decide ((c : Int) = 0) = true := decide_eq_true (by omega)
    have hI2 : wayD hs i = acc ++ [c] := by rw [hI, h0, wayD_zero]
    have e3 : (wayD hs i).length = n + 1 := by rw [hI2]; simp [hn]
    have c0 : ∀ (id N : Nat), id < N → (CR Tryz.prog 118 [.sl id 0 (n + 1) (n + 1)] [(id, some ⟨acc.map natA ++ [.int .i64 (c : Int)], 1, true, false⟩)] N (Is (.tup []) [(id, some ⟨(wayD hs i).reverse.map natA, 1, true, false⟩)] N)) := fun id N hid => by
      have := reverse_at (wayD hs i) (by omega) id N hid
      rw [e3] at this
      rw [hset, ← hI2]
      exact this
    rw [e3]
    repeat' (first | refine T_seq ?_ | refine N_then ?_ | refine N_thenR ?_ | refine N_blockR ?_ | refine N_againSR ?_ | refine T_regX tyOk ?_ | refine S_nil ?_ | refine T_ret ?_ | refine T_block ?_ | (apply T_ifT; (· exact rfl); (· (first | assumption | exact rfl))) | apply S_move | apply S_assign | (apply S_eql; (· exact gt_any rfl); (· exact gt_any rfl)) | (apply M_appB; (· exact rfl); (· exact rfl); (· exact gt_any rfl)) | (apply S_buildV tyOk; (· exact rfl); (· exact rfl)) | (apply S_callL ([1]); (· repeat' (first | exact gts_nil | exact gt_any rfl | apply gts_cons)); (· exact rfl); (· (apply c0) <;> first | assumption | decide | omega)) | (apply mlen; first | exact rfl | assumption | exact Nat.le_of_ble_eq_true rfl | omega | (simp [bA_length]; done) | (simp [bA_length]; omega)) | (apply msz; first | assumption | exact Nat.le_of_ble_eq_true rfl | (dsimp only; simp only [List.length_append, List.length_map, List.length_cons, List.length_nil, bA_length, List.length_take, List.length_drop, List.length_replicate] at *; omega) | (dsimp only; omega)) | (apply mnorm; first | with_reducible exact app_nil0 _ | exact app_norm _ _ | exact rfl) | exact Src.ls rfl rfl | (dsimp only; omega) | exact gtsI_nil | (apply gtsI_cons; (· exact gt_any rfl)) | exact elts_nil | apply elts_cons | (intro hu; cases hu; done) | exact gt_any rfl | exact okCells_of rfl rfl | exact rfl | fail)
    (apply E_U0 [(0, 1)] <;> repeat' (first | exact resL_nil | (apply resL_tmp; (· exact rfl)) | (apply resL_cell; (· exact rfl); (· exact rfl); (· exact rfl); (· exact rfl); (· exact rfl); (· exact rfl)) | (apply resL_arr; (· exact rfl); (· exact rfl); (· exact rfl); (· exact rfl); (· (first | assumption | exact rfl))) | exact Ren.sl _ _ _ _ | (apply ren_slE; (· first | exact rfl | omega); (· first | exact rfl | assumption | (simp [bA_length]; done) | (simp [bA_length]; omega)); (· first | exact rfl | assumption | (simp [bA_length]; done) | (simp [bA_length]; omega))) | exact Ren.ptr _ _ _ | exact renL_nil | apply renL_cons | (apply Ren.pure; exact PureC.out) | apply ren_agg | apply ren_tup | exact Low.sl _ _ _ _ (by decide) | exact Low.ptr _ _ _ (by decide) | exact lowL_nil | apply lowL_cons | (apply Low.pure; exact PureC.out) | apply low_agg | apply low_tup | exact pullB_nil | (apply pullB_pureE; (· exact rfl); (· first | exact rfl | assumption | (simp [bA]; done)); (· exact PureEC.out)) | (apply pullB_one; (· exact rfl)) | exact lowBs_nil | apply lowBs_cons | (apply PureB.low; exact PureEC.out) | apply lowX_one | exact lowX_nil | exact rfl))
  · have d0 : decide ((c : Int) = 0) = false := decide_eq_false (by omega)
    have hp := parI_range hs c (by omega)
    have hp0 := hJ.2 c (by omega) hc
    have hget := map_getD hdA hs Hd0 (k := c) (by omega)
    have t1 := map_takeF hdA hs c
    have c1 := parentOf_cv (hs.take c) (hs.getD c Hd0) (by rw [List.length_take]; omega) (fun x hx => hJ.1 x (List.mem_of_mem_take hx))
    have e2 : placeL ((hs.take c).map hdD) (hs.getD c Hd0).parent = (((parI hs c).toNat : Nat) : Int) := by
      have : placeL ((hs.take c).map hdD) (hs.getD c Hd0).parent = parI hs c := by unfold parI; rfl
      rw [this]; omega
    rw [e2] at c1
    rw [wayD_step hs hc h0] at hI
    repeat' (first | refine T_seq ?_ | refine N_then ?_ | refine N_block ?_ | refine T_regX tyOk ?_ | (apply T_drawM (id := 6) 7 tyOk mixed; (· exact rfl); (· exact rfl); (· kernel_rfl); (· exact Nat.le_of_ble_eq_true rfl)) | refine S_nil ?_ | refine T_skip ?_ | refine T_block ?_ | (apply T_ifF; (· exact rfl); (· (first | assumption | exact rfl))) | apply S_move | apply S_assign | (apply S_loadVA; (· exact rfl); (· exact gt_any rfl); (· exact rfl); (· exact rfl)) | (apply S_eql; (· exact gt_any rfl); (· exact gt_any rfl)) | (apply S_idxLs; (· exact rfl); (· exact rfl); (· exact gt_any rfl); (· exact gt_any rfl)) | (apply M_appB; (· exact rfl); (· exact rfl); (· exact gt_any rfl)) | (apply S_buildV tyOk; (· exact rfl); (· exact rfl)) | (apply M_slLs; (· exact rfl); (· exact rfl); (· exact gt_any rfl); (· exact rfl)) | apply S_callQ (f := 119) | apply c1 | exact viewL_nil | apply viewL_cons | (apply View.pure; exact PureC.out) | (apply mtake; first | assumption | exact take_full (by first | rfl | (simp; done)) | exact rfl) | exact FlatC.out | (apply mlen; first | exact rfl | assumption | exact Nat.le_of_ble_eq_true rfl | omega | (simp [bA_length]; done) | (simp [bA_length]; omega)) | (apply msz; first | assumption | exact Nat.le_of_ble_eq_true rfl | (dsimp only; simp only [List.length_append, List.length_map, List.length_cons, List.length_nil, bA_length, List.length_take, List.length_drop, List.length_replicate] at *; omega) | (dsimp only; omega)) | (apply mnorm; first | with_reducible exact app_nil0 _ | exact app_norm _ _ | exact rfl) | (apply mtake; first | assumption | exact take_full (by first | rfl | (simp; done)) | exact rfl) | exact Src.ls rfl rfl | (dsimp only; omega) | (apply mnat; first | exact Int.toNat_natCast _ | exact rfl) | exact Bd.no _ | (apply bd_at; (· exact gt_any rfl)) | exact gtsI_nil | (apply gtsI_cons; (· exact gt_any rfl)) | exact elts_nil | apply elts_cons | (intro hu; cases hu; done) | exact gt_any rfl | exact gts_nil | (apply gts_cons; (· exact gt_any rfl)) | exact okCells_of rfl rfl | assumption | (refine ⟨?_, ?_⟩ <;> omega) | omega | exact rfl | fail)
    exact N_againS (acc ++ [c], (parI hs c).toNat, n + 1) (sub_names [(0, 1)] (k0 := 0) rfl (by rfl) (by repeat' (first | exact pullE_nil | (apply pullE_cons; (· exact rfl)) | exact Ren.sl _ _ _ _ | (apply ren_slE; (· first | exact rfl | omega); (· first | exact rfl | assumption | (simp [bA_length]; done) | (simp [bA_length]; omega)); (· first | exact rfl | assumption | (simp [bA_length]; done) | (simp [bA_length]; omega))) | exact Ren.ptr _ _ _ | (apply Ren.pure; (first | exact PureC.out | exact PureLC.out | assumption)) | exact renL_nil | apply renL_cons | apply ren_agg | apply ren_tup)) (by repeat' (first | exact pullB_nil | (apply pullB_pure; (· first | exact rfl | exact congrArg (fun l => some (Box.mk l _ _ _)) hset); (· (exact PureEC.out))) | (apply pullB_one; (· exact rfl)) | exact renL_nil | apply renL_cons | exact Ren.sl _ _ _ _ | exact Ren.ptr _ _ _ | (apply Ren.pure; (first | exact PureC.out | exact PureLC.out | assumption)) | apply ren_agg)) (by repeat' (first | exact lowE_nil | apply lowE_cons | exact Low.sl _ _ _ _ (by decide) | exact Low.ptr _ _ _ (by decide) | (apply Low.pure; (first | exact PureC.out | exact PureLC.out | assumption)) | exact lowL_nil | apply lowL_cons | apply low_agg | apply low_tup)) (by repeat' (first | exact lowBs_nil | apply lowBs_cons | (apply PureB.low; (exact PureEC.out)) | apply lowX_one | exact lowX_nil | exact lowL_nil | apply lowL_cons | exact Low.sl _ _ _ _ (by decide) | exact Low.ptr _ _ _ (by decide) | (apply Low.pure; (first | exact PureC.out | exact PureLC.out | assumption))))) ⟨by simp only; omega, by simp only; omega, by simp [hn], by rw [hI]; simp⟩ (by simp only; omega)

theorem chainTo_cr (hs : List Hd) (i : Nat) (hJ : Joined hs) (hi : i < hs.length) (hl : hs.length ≤ 1000000) (N : Nat) : CR Tryz.prog 58 [hdAS hs, .int .i64 (i : Int)] [] N (Is (.sl N 0 (wayD hs i).length (wayD hs i).length) [(N, some ⟨(wayD hs i).reverse.map natA, 1, true, false⟩)] (N + 1)) :=
  CR.allN (chainTo_cr0 hs i hJ hi hl) N (by first | exact PureC.out | exact PureLC.out | assumption) (by repeat' (first | exact Ren.sl _ _ _ _ | exact Ren.ptr _ _ _ | exact renL_nil | apply renL_cons | (apply Ren.pure; (first | exact PureC.out | exact PureLC.out | assumption)) | apply ren_agg | apply ren_tup)) (by repeat' (first | exact renBs_nil | (apply renBs_pure; (· exact rfl); (· (exact PureEC.out))) | (apply renBs_one; (· exact rfl)) | exact renL_nil | apply renL_cons | exact Ren.sl _ _ _ _ | exact Ren.ptr _ _ _ | (apply Ren.pure; (first | exact PureC.out | exact PureLC.out | assumption)) | apply ren_agg))

end Go.Proofs.YtaolmfgpebncjaaGreat
