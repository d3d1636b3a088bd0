/- The sides of a way, and proofs. -/
import Derived.Test.YtaolmfgpebncjaaGreatZa
import Derived.Test.YtaolmfgpebncjaaGreatRb
import Derived.Test.YtaolmfgpebncjaaGreatXj
set_option maxRecDepth 100000
set_option maxHeartbeats 3200000
set_option linter.unusedSimpArgs false
set_option linter.unusedVariables false
namespace Go.Proofs.YtaolmfgpebncjaaGreat
open Go.Av
attribute [local irreducible] T thenQ blockQ againQ againS WX retV retR Gt Gts GtsP okCells CV CR Av.Pure
attribute [local irreducible] sha

abbrev boA (b : Bool) : AV := .bool b
instance : ElemF boA := ⟨fun a y hy => by
  simp only [AV.cells, List.mem_cons, List.not_mem_nil, or_false] at hy
  subst hy
  exact ⟨pure_bool _, rfl⟩⟩
instance : OwnF boA := ⟨fun a y hy => by
  simp only [AV.cells, List.mem_cons, List.not_mem_nil, or_false] at hy
  subst hy
  exact (flat_bool _).own⟩
abbrev boolsA (l : List Bool) : AV := sl1 (l.map boA)

def sidesGo : Nat → Nat → Nat → List Bool
  | 0, _, _ => []
  | f + 1, c, p => if c ≤ 1 then [] else if p < splitN c then sidesGo f (splitN c) p ++ [false] else sidesGo f (c - splitN c) (p - splitN c) ++ [true]
def sidesL (c p : Nat) : List Bool := sidesGo c c p
theorem sidesGo_eq : ∀ (f g c p : Nat), c ≤ f → c ≤ g → sidesGo f c p = sidesGo g c p
  | 0, 0, c, p, _, _ => rfl
  | 0, g + 1, c, p, h, _ => by rw [sidesGo, sidesGo, if_pos (by omega)]
  | f + 1, 0, c, p, _, h => by rw [sidesGo, sidesGo, if_pos (by omega)]
  | f + 1, g + 1, c, p, h, k => by
    rw [sidesGo, sidesGo]
    split
    · rfl
    · have hs := splitN_lt (n := c) (by omega)
      rw [sidesGo_eq f g (splitN c) p (by omega) (by omega), sidesGo_eq f g (c - splitN c) _ (by omega) (by omega)]
theorem sidesL_one {c p : Nat} (h : c ≤ 1) : sidesL c p = [] := by
  unfold sidesL
  cases c with
  | zero => rfl
  | succ c => rw [sidesGo, if_pos h]
theorem sidesL_left {c p : Nat} (h : 2 ≤ c) (k : p < splitN c) : sidesL c p = sidesL (splitN c) p ++ [false] := by
  have hs := splitN_lt h
  unfold sidesL
  rw [show sidesGo c c p = sidesGo (c - 1 + 1) c p by rw [show c - 1 + 1 = c by omega], sidesGo, if_neg (by omega), if_pos k]
  rw [sidesGo_eq (c - 1) (splitN c) _ _ (by omega) (by omega)]
theorem sidesL_right {c p : Nat} (h : 2 ≤ c) (k : ¬ p < splitN c) : sidesL c p = sidesL (c - splitN c) (p - splitN c) ++ [true] := by
  have hs := splitN_lt h
  unfold sidesL
  rw [show sidesGo c c p = sidesGo (c - 1 + 1) c p by rw [show c - 1 + 1 = c by omega], sidesGo, if_neg (by omega), if_neg k]
  rw [sidesGo_eq (c - 1) (c - splitN c) _ _ (by omega) (by omega)]
theorem sidesGo_length : ∀ (f c p : Nat), (sidesGo f c p).length ≤ f
  | 0, c, p => by simp [sidesGo]
  | f + 1, c, p => by
    rw [sidesGo]
    split
    · simp
    · split
      · have := sidesGo_length f (splitN c) p; simp; omega
      · have := sidesGo_length f (c - splitN c) (p - splitN c); simp; omega
theorem sidesL_length (c p : Nat) : (sidesL c p).length ≤ c := sidesGo_length _ _ _

theorem sides_cr (n : Nat) : ∀ (c p : Nat), c = n → 1 ≤ c → c ≤ 1000000 → p < c → ∀ N, CR Tryz.prog 180 [.int .i64 (c : Int), .int .i64 (p : Int)] [] N (Is (.sl N 0 (sidesL c p).length (sidesL c p).length) [(N, some ⟨(sidesL c p).map boA, 1, true, false⟩)] (N + 1)) := by
  induction n using Nat.strongRecOn with
  | _ n ih =>
    intro c p hn h1 hl hp N
    refine CR.allN (?_ : (CR Tryz.prog 180 [.int .i64 (c : Int), .int .i64 (p : Int)] [] 0 (Is (.sl 0 0 (sidesL c p).length (sidesL c p).length) [(0, some ⟨(sidesL c p).map boA, 1, true, false⟩)] (0 + 1)))) N (by first | exact PureC.out | exact PureLC.out | assumption) (by repeat' (first | exact Ren.sl _ _ _ _ | exact Ren.ptr _ _ _ | exact renL_nil | apply renL_cons | (apply Ren.pure; (first | exact PureC.out | exact PureLC.out | assumption)) | apply ren_agg | apply ren_tup)) (by repeat' (first | exact renBs_nil | (apply renBs_pure; (· exact rfl); (· (exact PureEC.out))) | (apply renBs_one; (· exact rfl)) | exact renL_nil | apply renL_cons | exact Ren.sl _ _ _ _ | exact Ren.ptr _ _ _ | (apply Ren.pure; (first | exact PureC.out | exact PureLC.out | assumption)) | apply ren_agg))
    refine CR_introU tyOk Tryz.func180 (by kernel_rfl) rfl 27 rfl (by simp) [.tmp 4] rfl ?_
    intro w0 ok0 wr φ0
    by_cases h0 : c = 1
    · have d0 : decide ((c : Int) = 1) = true := decide_eq_true (by omega)
      rw [sidesL_one (by omega)]
      repeat' (first | refine T_seq ?_ | refine N_then ?_ | refine N_thenR ?_ | refine T_regX tyOk ?_ | refine S_nil ?_ | refine T_ret ?_ | (apply T_ifT; (· exact rfl); (· (first | assumption | exact rfl))) | apply S_move | apply S_assign | (apply S_eql; (· exact gt_any rfl); (· exact gt_any rfl)) | exact gt_any rfl | exact rfl | fail)
      (apply E_U1 [(0, 0)] 1 <;> repeat' (first | exact resL_nil | (apply resL_tmp; (· exact rfl)) | (apply resL_cell; (· exact rfl); (· exact rfl); (· exact rfl); (· exact rfl); (· exact rfl); (· exact rfl)) | (apply resL_arr; (· exact rfl); (· exact rfl); (· exact rfl); (· exact rfl); (· (first | assumption | exact rfl))) | exact Ren.sl _ _ _ _ | (apply ren_slE; (· first | exact rfl | omega); (· first | exact rfl | assumption | (simp [bA_length]; done) | (simp [bA_length]; omega)); (· first | exact rfl | assumption | (simp [bA_length]; done) | (simp [bA_length]; omega))) | exact Ren.ptr _ _ _ | exact renL_nil | apply renL_cons | (apply Ren.pure; exact PureC.out) | apply ren_agg | apply ren_tup | exact Low.sl _ _ _ _ (by decide) | exact Low.ptr _ _ _ (by decide) | exact lowL_nil | apply lowL_cons | (apply Low.pure; exact PureC.out) | apply low_agg | apply low_tup | exact pullB_nil | (apply pullB_pureE; (· exact rfl); (· first | exact rfl | assumption | (simp [bA]; done)); (· exact PureEC.out)) | (apply pullB_one; (· exact rfl)) | exact lowBs_nil | apply lowBs_cons | (apply PureB.low; exact PureEC.out) | apply lowX_one | exact lowX_nil | exact rfl))
    have d0 : decide ((c : Int) = 1) = false := decide_eq_false (by omega)
    have hs := splitN_lt (n := c) (by omega)
    have c0 := splitAt_cv c (by omega)
    have w1 : IntKind.wrap .i64 ((c : Int) - (splitN c : Int)) = ((c - splitN c : Nat) : Int) := by rw [wrap_i64 (by omega) (by omega)]; omega
    by_cases h2 : p < splitN c
    · have d1 : decide ((p : Int) < (splitN c : Int)) = true := decide_eq_true (by omega)
      have c1 : ∀ N, (CR Tryz.prog 180 [.int .i64 (splitN c : Int), .int .i64 (p : Int)] [] N (Is (.sl N 0 (sidesL (splitN c) p).length (sidesL (splitN c) p).length) [(N, some ⟨(sidesL (splitN c) p).map boA, 1, true, false⟩)] (N + 1))) := ih (splitN c) (by omega) (splitN c) p rfl (by omega) (by omega) (by omega)
      have t1 : (sidesL (splitN c) p).map boA ++ [.bool false] = (sidesL c p).map boA := by rw [sidesL_left (by omega) h2]; simp
      have t2 : (sidesL (splitN c) p).length + 1 = (sidesL c p).length := by rw [sidesL_left (by omega) h2]; simp
      have t3 : ((sidesL (splitN c) p).map boA).length = (sidesL (splitN c) p).length := by simp
      have t4 := sidesL_length (splitN c) p
      repeat' (first | refine T_seq ?_ | refine N_then ?_ | refine N_thenR ?_ | refine T_regX tyOk ?_ | refine S_nil ?_ | refine T_skip ?_ | refine T_ret ?_ | (apply T_ifT; (· exact rfl); (· (first | assumption | exact rfl))) | (apply T_ifF; (· exact rfl); (· (first | assumption | exact rfl))) | apply S_move | apply S_assign | apply S_lss | (apply S_eql; (· exact gt_any rfl); (· exact gt_any rfl)) | (apply M_appB; (· exact rfl); (· exact rfl); (· exact gt_any rfl)) | (apply S_buildL tyOk; (· exact rfl); (· exact rfl); (· exact rfl)) | apply S_callQ (f := 134) | apply c0 | apply S_callI (f := 180) | apply c1 | exact viewL_nil | apply viewL_cons | (apply View.pure; exact PureC.out) | (apply mtake; first | assumption | exact take_full (by first | rfl | (simp; done)) | exact rfl) | exact FlatC.out | exact OwnC.out | exact ownB_nil | (apply ownB_boxM; (· (apply mlen; first | exact rfl | assumption | exact Nat.le_of_ble_eq_true rfl | omega | (simp [bA_length]; done) | (simp [bA_length]; omega))); (· exact OwnEC.out)) | (apply mlen; first | exact rfl | assumption | exact Nat.le_of_ble_eq_true rfl | omega | (simp [bA_length]; done) | (simp [bA_length]; omega)) | (apply msz; first | assumption | exact Nat.le_of_ble_eq_true rfl | (dsimp only; simp only [List.length_append, List.length_map, List.length_cons, List.length_nil, bA_length, List.length_take, List.length_drop, List.length_replicate] at *; omega) | (dsimp only; omega)) | (apply mnorm; first | with_reducible exact app_nil0 _ | exact app_norm _ _ | exact rfl) | (apply mtake; first | assumption | exact take_full (by first | rfl | (simp; done)) | exact rfl) | (apply src_sl; (· exact rfl); (· exact rfl); (· exact rfl)) | (dsimp only; omega) | exact gtsI_nil | (apply gtsI_cons; (· exact gt_any rfl)) | exact elts_nil | apply elts_cons | (intro hu; cases hu; done) | exact gt_any rfl | exact gts_nil | (apply gts_cons; (· exact gt_any rfl)) | exact okCells_of rfl rfl | exact rfl | fail)
      rw [← t2]
      (apply E_U0 [(0, 2)] <;> repeat' (first | exact resL_nil | (apply resL_tmp; (· exact rfl)) | (apply resL_cell; (· exact rfl); (· exact rfl); (· exact rfl); (· exact rfl); (· exact rfl); (· exact rfl)) | (apply resL_arr; (· exact rfl); (· exact rfl); (· exact rfl); (· exact rfl); (· (first | assumption | exact rfl))) | exact Ren.sl _ _ _ _ | (apply ren_slE; (· first | exact rfl | omega); (· first | exact rfl | assumption | (simp [bA_length]; done) | (simp [bA_length]; omega)); (· first | exact rfl | assumption | (simp [bA_length]; done) | (simp [bA_length]; omega))) | exact Ren.ptr _ _ _ | exact renL_nil | apply renL_cons | (apply Ren.pure; exact PureC.out) | apply ren_agg | apply ren_tup | exact Low.sl _ _ _ _ (by decide) | exact Low.ptr _ _ _ (by decide) | exact lowL_nil | apply lowL_cons | (apply Low.pure; exact PureC.out) | apply low_agg | apply low_tup | exact pullB_nil | (apply pullB_pureE; (· exact rfl); (· first | exact rfl | assumption | (simp [bA]; done)); (· exact PureEC.out)) | (apply pullB_one; (· exact rfl)) | exact lowBs_nil | apply lowBs_cons | (apply PureB.low; exact PureEC.out) | apply lowX_one | exact lowX_nil | exact rfl))
    · have d1 : decide ((p : Int) < (splitN c : Int)) = false := decide_eq_false (by omega)
      have w2 : IntKind.wrap .i64 ((p : Int) - (splitN c : Int)) = ((p - splitN c : Nat) : Int) := by rw [wrap_i64 (by omega) (by omega)]; omega
      have c1 : ∀ N, (CR Tryz.prog 180 [.int .i64 ((c - splitN c : Nat) : Int), .int .i64 ((p - splitN c : Nat) : Int)] [] N (Is (.sl N 0 (sidesL (c - splitN c) (p - splitN c)).length (sidesL (c - splitN c) (p - splitN c)).length) [(N, some ⟨(sidesL (c - splitN c) (p - splitN c)).map boA, 1, true, false⟩)] (N + 1))) := ih (c - splitN c) (by omega) (c - splitN c) (p - splitN c) rfl (by omega) (by omega) (by omega)
      have t1 : (sidesL (c - splitN c) (p - splitN c)).map boA ++ [.bool true] = (sidesL c p).map boA := by rw [sidesL_right (by omega) h2]; simp
      have t2 : (sidesL (c - splitN c) (p - splitN c)).length + 1 = (sidesL c p).length := by rw [sidesL_right (by omega) h2]; simp
      have t3 : ((sidesL (c - splitN c) (p - splitN c)).map boA).length = (sidesL (c - splitN c) (p - splitN c)).length := by simp
      have t4 := sidesL_length (c - splitN c) (p - splitN c)
      repeat' (first | refine T_seq ?_ | refine N_then ?_ | refine T_regX tyOk ?_ | refine S_nil ?_ | refine T_skip ?_ | refine T_ret ?_ | (apply T_ifF; (· exact rfl); (· (first | assumption | exact rfl))) | apply S_move | apply S_assign | apply S_lss | (apply S_eql; (· exact gt_any rfl); (· exact gt_any rfl)) | apply S_sub | (apply M_appB; (· exact rfl); (· exact rfl); (· exact gt_any rfl)) | (apply S_buildL tyOk; (· exact rfl); (· exact rfl); (· exact rfl)) | apply S_callQ (f := 134) | apply c0 | apply S_callI (f := 180) | apply c1 | exact viewL_nil | apply viewL_cons | (apply View.pure; exact PureC.out) | (apply mtake; first | assumption | exact take_full (by first | rfl | (simp; done)) | exact rfl) | exact FlatC.out | exact OwnC.out | exact ownB_nil | (apply ownB_boxM; (· (apply mlen; first | exact rfl | assumption | exact Nat.le_of_ble_eq_true rfl | omega | (simp [bA_length]; done) | (simp [bA_length]; omega))); (· exact OwnEC.out)) | (apply mlen; first | exact rfl | assumption | exact Nat.le_of_ble_eq_true rfl | omega | (simp [bA_length]; done) | (simp [bA_length]; omega)) | (apply msz; first | assumption | exact Nat.le_of_ble_eq_true rfl | (dsimp only; simp only [List.length_append, List.length_map, List.length_cons, List.length_nil, bA_length, List.length_take, List.length_drop, List.length_replicate] at *; omega) | (dsimp only; omega)) | (apply mnorm; first | with_reducible exact app_nil0 _ | exact app_norm _ _ | exact rfl) | (apply mtake; first | assumption | exact take_full (by first | rfl | (simp; done)) | exact rfl) | (apply src_sl; (· exact rfl); (· exact rfl); (· exact rfl)) | (dsimp only; omega) | exact gtsI_nil | (apply gtsI_cons; (· exact gt_any rfl)) | exact elts_nil | apply elts_cons | (intro hu; cases hu; done) | exact gt_any rfl | exact gts_nil | (apply gts_cons; (· exact gt_any rfl)) | exact okCells_of rfl rfl | assumption | exact rfl | fail)
      rw [← t2]
      (apply E_U0 [(0, 2)] <;> repeat' (first | exact resL_nil | (apply resL_tmp; (· exact rfl)) | (apply resL_cell; (· exact rfl); (· exact rfl); (· exact rfl); (· exact rfl); (· exact rfl); (· exact rfl)) | (apply resL_arr; (· exact rfl); (· exact rfl); (· exact rfl); (· exact rfl); (· (first | assumption | exact rfl))) | exact Ren.sl _ _ _ _ | (apply ren_slE; (· first | exact rfl | omega); (· first | exact rfl | assumption | (simp [bA_length]; done) | (simp [bA_length]; omega)); (· first | exact rfl | assumption | (simp [bA_length]; done) | (simp [bA_length]; omega))) | exact Ren.ptr _ _ _ | exact renL_nil | apply renL_cons | (apply Ren.pure; exact PureC.out) | apply ren_agg | apply ren_tup | exact Low.sl _ _ _ _ (by decide) | exact Low.ptr _ _ _ (by decide) | exact lowL_nil | apply lowL_cons | (apply Low.pure; exact PureC.out) | apply low_agg | apply low_tup | exact pullB_nil | (apply pullB_pureE; (· exact rfl); (· first | exact rfl | assumption | (simp [bA]; done)); (· exact PureEC.out)) | (apply pullB_one; (· exact rfl)) | exact lowBs_nil | apply lowBs_cons | (apply PureB.low; exact PureEC.out) | apply lowX_one | exact lowX_nil | exact rfl))

theorem l3Sides_cr (n : Nat) : ∀ (c p : Nat), c = n → 1 ≤ c → c ≤ 1000000 → p < c → ∀ N, CR Tryz.prog 178 [.int .i64 (c : Int), .int .i64 (p : Int)] [] N (Is (.sl N 0 (sidesL c p).length (sidesL c p).length) [(N, some ⟨((sidesL c p).map not).map boA, 1, true, false⟩)] (N + 1)) := by
  induction n using Nat.strongRecOn with
  | _ n ih =>
    intro c p hn h1 hl hp N
    refine CR.allN (?_ : (CR Tryz.prog 178 [.int .i64 (c : Int), .int .i64 (p : Int)] [] 0 (Is (.sl 0 0 (sidesL c p).length (sidesL c p).length) [(0, some ⟨((sidesL c p).map not).map boA, 1, true, false⟩)] (0 + 1)))) N (by first | exact PureC.out | exact PureLC.out | assumption) (by repeat' (first | exact Ren.sl _ _ _ _ | exact Ren.ptr _ _ _ | exact renL_nil | apply renL_cons | (apply Ren.pure; (first | exact PureC.out | exact PureLC.out | assumption)) | apply ren_agg | apply ren_tup)) (by repeat' (first | exact renBs_nil | (apply renBs_pure; (· exact rfl); (· (exact PureEC.out))) | (apply renBs_one; (· exact rfl)) | exact renL_nil | apply renL_cons | exact Ren.sl _ _ _ _ | exact Ren.ptr _ _ _ | (apply Ren.pure; (first | exact PureC.out | exact PureLC.out | assumption)) | apply ren_agg))
    refine CR_introU tyOk Tryz.func178 (by kernel_rfl) rfl 28 rfl (by simp) [.tmp 4] rfl ?_
    intro w0 ok0 wr φ0
    by_cases h0 : c = 1
    · have d0 : decide ((c : Int) ≤ 1) = true := decide_eq_true (by omega)
      rw [sidesL_one (by omega)]
      repeat' (first | refine T_seq ?_ | refine N_then ?_ | refine N_thenR ?_ | refine T_regX tyOk ?_ | refine S_nil ?_ | refine T_ret ?_ | (apply T_ifT; (· exact rfl); (· (first | assumption | exact rfl))) | apply S_move | apply S_assign | apply S_leq | (apply S_buildL tyOk; (· exact rfl); (· exact rfl); (· exact rfl)) | (dsimp only; omega) | exact gtsI_nil | exact elts_nil | exact gt_any rfl | exact rfl | fail)
      (apply E_U0 [(0, 0)] <;> repeat' (first | exact resL_nil | (apply resL_tmp; (· exact rfl)) | (apply resL_cell; (· exact rfl); (· exact rfl); (· exact rfl); (· exact rfl); (· exact rfl); (· exact rfl)) | (apply resL_arr; (· exact rfl); (· exact rfl); (· exact rfl); (· exact rfl); (· (first | assumption | exact rfl))) | exact Ren.sl _ _ _ _ | (apply ren_slE; (· first | exact rfl | omega); (· first | exact rfl | assumption | (simp [bA_length]; done) | (simp [bA_length]; omega)); (· first | exact rfl | assumption | (simp [bA_length]; done) | (simp [bA_length]; omega))) | exact Ren.ptr _ _ _ | exact renL_nil | apply renL_cons | (apply Ren.pure; exact PureC.out) | apply ren_agg | apply ren_tup | exact Low.sl _ _ _ _ (by decide) | exact Low.ptr _ _ _ (by decide) | exact lowL_nil | apply lowL_cons | (apply Low.pure; exact PureC.out) | apply low_agg | apply low_tup | exact pullB_nil | (apply pullB_pureE; (· exact rfl); (· first | exact rfl | assumption | (simp [bA]; done)); (· exact PureEC.out)) | (apply pullB_one; (· exact rfl)) | exact lowBs_nil | apply lowBs_cons | (apply PureB.low; exact PureEC.out) | apply lowX_one | exact lowX_nil | exact rfl))
    have d0 : decide ((c : Int) ≤ 1) = false := decide_eq_false (by omega)
    have hs := splitN_lt (n := c) (by omega)
    have c0 := l3Split_cv c (by omega)
    have w1 : IntKind.wrap .i64 ((c : Int) - (splitN c : Int)) = ((c - splitN c : Nat) : Int) := by rw [wrap_i64 (by omega) (by omega)]; omega
    by_cases h2 : p < splitN c
    · have d1 : decide ((p : Int) < (splitN c : Int)) = true := decide_eq_true (by omega)
      have c1 : ∀ N, (CR Tryz.prog 178 [.int .i64 (splitN c : Int), .int .i64 (p : Int)] [] N (Is (.sl N 0 (sidesL (splitN c) p).length (sidesL (splitN c) p).length) [(N, some ⟨((sidesL (splitN c) p).map not).map boA, 1, true, false⟩)] (N + 1))) := ih (splitN c) (by omega) (splitN c) p rfl (by omega) (by omega) (by omega)
      have t1 : ((sidesL (splitN c) p).map not).map boA ++ [.bool true] = ((sidesL c p).map not).map boA := by rw [sidesL_left (by omega) h2]; simp
      have t2 : (sidesL (splitN c) p).length + 1 = (sidesL c p).length := by rw [sidesL_left (by omega) h2]; simp
      have t3 : (((sidesL (splitN c) p).map not).map boA).length = (sidesL (splitN c) p).length := by simp
      have t4 := sidesL_length (splitN c) p
      repeat' (first | refine T_seq ?_ | refine N_then ?_ | refine N_thenR ?_ | refine T_regX tyOk ?_ | refine S_nil ?_ | refine T_skip ?_ | refine T_ret ?_ | (apply T_ifT; (· exact rfl); (· (first | assumption | exact rfl))) | (apply T_ifF; (· exact rfl); (· (first | assumption | exact rfl))) | apply S_move | apply S_assign | apply S_lss | apply S_leq | (apply M_appB; (· exact rfl); (· exact rfl); (· exact gt_any rfl)) | (apply S_buildL tyOk; (· exact rfl); (· exact rfl); (· exact rfl)) | apply S_callQ (f := 162) | apply c0 | apply S_callI (f := 178) | apply c1 | exact viewL_nil | apply viewL_cons | (apply View.pure; exact PureC.out) | (apply mtake; first | assumption | exact take_full (by first | rfl | (simp; done)) | exact rfl) | exact FlatC.out | exact OwnC.out | exact ownB_nil | (apply ownB_boxM; (· (apply mlen; first | exact rfl | assumption | exact Nat.le_of_ble_eq_true rfl | omega | (simp [bA_length]; done) | (simp [bA_length]; omega))); (· exact OwnEC.out)) | (apply mlen; first | exact rfl | assumption | exact Nat.le_of_ble_eq_true rfl | omega | (simp [bA_length]; done) | (simp [bA_length]; omega)) | (apply msz; first | assumption | exact Nat.le_of_ble_eq_true rfl | (dsimp only; simp only [List.length_append, List.length_map, List.length_cons, List.length_nil, bA_length, List.length_take, List.length_drop, List.length_replicate] at *; omega) | (dsimp only; omega)) | (apply mnorm; first | with_reducible exact app_nil0 _ | exact app_norm _ _ | exact rfl) | (apply mtake; first | assumption | exact take_full (by first | rfl | (simp; done)) | exact rfl) | (apply src_sl; (· exact rfl); (· exact rfl); (· exact rfl)) | (dsimp only; omega) | exact gtsI_nil | (apply gtsI_cons; (· exact gt_any rfl)) | exact elts_nil | apply elts_cons | (intro hu; cases hu; done) | exact gt_any rfl | exact gts_nil | (apply gts_cons; (· exact gt_any rfl)) | exact okCells_of rfl rfl | exact rfl | fail)
      rw [← t2]
      (apply E_U0 [(0, 2)] <;> repeat' (first | exact resL_nil | (apply resL_tmp; (· exact rfl)) | (apply resL_cell; (· exact rfl); (· exact rfl); (· exact rfl); (· exact rfl); (· exact rfl); (· exact rfl)) | (apply resL_arr; (· exact rfl); (· exact rfl); (· exact rfl); (· exact rfl); (· (first | assumption | exact rfl))) | exact Ren.sl _ _ _ _ | (apply ren_slE; (· first | exact rfl | omega); (· first | exact rfl | assumption | (simp [bA_length]; done) | (simp [bA_length]; omega)); (· first | exact rfl | assumption | (simp [bA_length]; done) | (simp [bA_length]; omega))) | exact Ren.ptr _ _ _ | exact renL_nil | apply renL_cons | (apply Ren.pure; exact PureC.out) | apply ren_agg | apply ren_tup | exact Low.sl _ _ _ _ (by decide) | exact Low.ptr _ _ _ (by decide) | exact lowL_nil | apply lowL_cons | (apply Low.pure; exact PureC.out) | apply low_agg | apply low_tup | exact pullB_nil | (apply pullB_pureE; (· exact rfl); (· first | exact rfl | assumption | (simp [bA]; done)); (· exact PureEC.out)) | (apply pullB_one; (· exact rfl)) | exact lowBs_nil | apply lowBs_cons | (apply PureB.low; exact PureEC.out) | apply lowX_one | exact lowX_nil | exact rfl))
    · have d1 : decide ((p : Int) < (splitN c : Int)) = false := decide_eq_false (by omega)
      have w2 : IntKind.wrap .i64 ((p : Int) - (splitN c : Int)) = ((p - splitN c : Nat) : Int) := by rw [wrap_i64 (by omega) (by omega)]; omega
      have c1 : ∀ N, (CR Tryz.prog 178 [.int .i64 ((c - splitN c : Nat) : Int), .int .i64 ((p - splitN c : Nat) : Int)] [] N (Is (.sl N 0 (sidesL (c - splitN c) (p - splitN c)).length (sidesL (c - splitN c) (p - splitN c)).length) [(N, some ⟨((sidesL (c - splitN c) (p - splitN c)).map not).map boA, 1, true, false⟩)] (N + 1))) := ih (c - splitN c) (by omega) (c - splitN c) (p - splitN c) rfl (by omega) (by omega) (by omega)
      have t1 : ((sidesL (c - splitN c) (p - splitN c)).map not).map boA ++ [.bool false] = ((sidesL c p).map not).map boA := by rw [sidesL_right (by omega) h2]; simp
      have t2 : (sidesL (c - splitN c) (p - splitN c)).length + 1 = (sidesL c p).length := by rw [sidesL_right (by omega) h2]; simp
      have t3 : (((sidesL (c - splitN c) (p - splitN c)).map not).map boA).length = (sidesL (c - splitN c) (p - splitN c)).length := by simp
      have t4 := sidesL_length (c - splitN c) (p - splitN c)
      repeat' (first | refine T_seq ?_ | refine N_then ?_ | refine T_regX tyOk ?_ | refine S_nil ?_ | refine T_skip ?_ | refine T_ret ?_ | (apply T_ifF; (· exact rfl); (· (first | assumption | exact rfl))) | apply S_move | apply S_assign | apply S_lss | apply S_leq | apply S_sub | (apply M_appB; (· exact rfl); (· exact rfl); (· exact gt_any rfl)) | (apply S_buildL tyOk; (· exact rfl); (· exact rfl); (· exact rfl)) | apply S_callQ (f := 162) | apply c0 | apply S_callI (f := 178) | apply c1 | exact viewL_nil | apply viewL_cons | (apply View.pure; exact PureC.out) | (apply mtake; first | assumption | exact take_full (by first | rfl | (simp; done)) | exact rfl) | exact FlatC.out | exact OwnC.out | exact ownB_nil | (apply ownB_boxM; (· (apply mlen; first | exact rfl | assumption | exact Nat.le_of_ble_eq_true rfl | omega | (simp [bA_length]; done) | (simp [bA_length]; omega))); (· exact OwnEC.out)) | (apply mlen; first | exact rfl | assumption | exact Nat.le_of_ble_eq_true rfl | omega | (simp [bA_length]; done) | (simp [bA_length]; omega)) | (apply msz; first | assumption | exact Nat.le_of_ble_eq_true rfl | (dsimp only; simp only [List.length_append, List.length_map, List.length_cons, List.length_nil, bA_length, List.length_take, List.length_drop, List.length_replicate] at *; omega) | (dsimp only; omega)) | (apply mnorm; first | with_reducible exact app_nil0 _ | exact app_norm _ _ | exact rfl) | (apply mtake; first | assumption | exact take_full (by first | rfl | (simp; done)) | exact rfl) | (apply src_sl; (· exact rfl); (· exact rfl); (· exact rfl)) | (dsimp only; omega) | exact gtsI_nil | (apply gtsI_cons; (· exact gt_any rfl)) | exact elts_nil | apply elts_cons | (intro hu; cases hu; done) | exact gt_any rfl | exact gts_nil | (apply gts_cons; (· exact gt_any rfl)) | exact okCells_of rfl rfl | assumption | exact rfl | fail)
      rw [← t2]
      (apply E_U0 [(0, 2)] <;> repeat' (first | exact resL_nil | (apply resL_tmp; (· exact rfl)) | (apply resL_cell; (· exact rfl); (· exact rfl); (· exact rfl); (· exact rfl); (· exact rfl); (· exact rfl)) | (apply resL_arr; (· exact rfl); (· exact rfl); (· exact rfl); (· exact rfl); (· (first | assumption | exact rfl))) | exact Ren.sl _ _ _ _ | (apply ren_slE; (· first | exact rfl | omega); (· first | exact rfl | assumption | (simp [bA_length]; done) | (simp [bA_length]; omega)); (· first | exact rfl | assumption | (simp [bA_length]; done) | (simp [bA_length]; omega))) | exact Ren.ptr _ _ _ | exact renL_nil | apply renL_cons | (apply Ren.pure; exact PureC.out) | apply ren_agg | apply ren_tup | exact Low.sl _ _ _ _ (by decide) | exact Low.ptr _ _ _ (by decide) | exact lowL_nil | apply lowL_cons | (apply Low.pure; exact PureC.out) | apply low_agg | apply low_tup | exact pullB_nil | (apply pullB_pureE; (· exact rfl); (· first | exact rfl | assumption | (simp [bA]; done)); (· exact PureEC.out)) | (apply pullB_one; (· exact rfl)) | exact lowBs_nil | apply lowBs_cons | (apply PureB.low; exact PureEC.out) | apply lowX_one | exact lowX_nil | exact rfl))

theorem sides_cv (c p : Nat) (h1 : 1 ≤ c) (hl : c ≤ 1000000) (hp : p < c) : CV Tryz.prog 180 [.int .i64 (c : Int), .int .i64 (p : Int)] (· = boolsA (sidesL c p)) :=
  CR.byVal (sides_cr c c p rfl h1 hl hp 0) (by simp) PureEC.out

theorem l3Sides_cv (c p : Nat) (h1 : 1 ≤ c) (hl : c ≤ 1000000) (hp : p < c) : CV Tryz.prog 178 [.int .i64 (c : Int), .int .i64 (p : Int)] (· = boolsA ((sidesL c p).map not)) :=
  CR.byVal (l3Sides_cr c c p rfl h1 hl hp 0) (by simp) PureEC.out

def plOk (c p : Int) : Bool := (decide (1 ≤ c) && decide (c ≤ 16)) && (decide (0 ≤ p) && decide (p ≤ c - 1))
def plC (c p : Int) : Int := if plOk c p then 0 else 3
def plV (c p : Int) : Int := if plOk c p then ((sidesL c.toNat p.toNat).length : Int) else 0

theorem pathLength_cv (c p : Int) : CV Tryz.prog 196 [.int .i64 c, .int .i64 p] (· = /-flat-/ .agg [.int .i64 (plC c p), .int .i64 (plV c p)]) := by
  refine CV_intro tyOk Tryz.func196 (by kernel_rfl) rfl 21 rfl (by simp) [.cell 4 73] rfl ?_
  intro w0 ok0
  by_cases h1 : 1 ≤ c ∧ c ≤ 16
  · have d1 : (!(decide (1 ≤ c) && decide (c ≤ 16))) = false := by simp [h1]
    have w1 : IntKind.wrap .i64 (c - 1) = c - 1 := wrap_i64 (by omega) (by omega)
    by_cases h2 : 0 ≤ p ∧ p ≤ c - 1
    · have d2 : (!(decide (0 ≤ p) && decide (p ≤ c - 1))) = false := by simp [h2]
      have hok : plOk c p = true := by unfold plOk; simp [h1, h2]
      have e1 : plC c p = 0 := if_pos hok
      have e2 : plV c p = ((sidesL c.toNat p.toNat).length : Int) := if_pos hok
      rw [e1, e2]
      obtain ⟨c, rfl⟩ : ∃ n : Nat, c = (n : Int) := ⟨c.toNat, by omega⟩
      obtain ⟨p, rfl⟩ : ∃ n : Nat, p = (n : Int) := ⟨p.toNat, by omega⟩
      rw [Int.toNat_natCast, Int.toNat_natCast]
      have c0 := sides_cv c p (by omega) (by omega) (by omega)
      have hm : ((sidesL c p).map boA).length = (sidesL c p).length := by simp
      rw [← hm]
      repeat' (first | refine T_seq ?_ | refine N_then ?_ | refine T_regX tyOk ?_ | refine S_nil ?_ | refine T_skip ?_ | refine T_ret ?_ | (apply E_X <;> repeat' (first | exact resL_nil | (apply resL_tmp; (· exact rfl)) | (apply resL_cell; (· exact rfl); (· exact rfl); (· exact rfl); (· exact rfl); (· exact rfl); (· exact rfl)) | (apply resL_arr; (· exact rfl); (· exact rfl); (· exact rfl); (· exact rfl); (· (first | assumption | exact rfl))) | exact viewL_nil | apply viewL_cons | apply view_nothingE | (apply view_slE; (· exact rfl); (· first | exact rfl | assumption | (simp [bA_length]; done) | (simp [bA_length]; omega) | omega); (· exact PureEC.out)) | (apply view_loose; (· exact PureEC.out)) | apply view_agg | apply view_tup | (apply View.ofEq; (· exact PureC.out)) | exact rfl)) | (apply T_ifF; (· exact rfl); (· (first | assumption | exact rfl))) | (apply S_gf; (· exact rfl); (· exact rfl); (· (first | assumption | exact rfl))) | apply S_move | (apply S_pickF; (· exact gt_any rfl); (· (first | assumption | exact rfl))) | apply S_sub | apply S_not | (apply S_len_ls; (· exact rfl); (· exact gt_any rfl)) | apply S_alloc | (apply S_store1; (· exact rfl); (· exact gt_any rfl); (· exact rfl); (· exact rfl); (· exact rfl); (· exact rfl)) | (apply S_build; (· exact rfl); (· exact rfl); (· exact rfl); (· (repeat' (first | exact gtsP_nil | exact gt_any rfl | apply gtsP_cons))); (· (repeat' (first | exact BuildR.nil _ | (apply BuildR.cons; (· exact rfl); (· exact rfl); (· exact rfl); (· exact rfl); (· (first | nofun | assumption)); (· (repeat' constructor))))))) | apply S_call (f := 180) | apply c0 | apply S_callQ (f := 57) | apply in_cv | exact viewL_nil | apply viewL_cons | (apply View.pure; exact PureC.out) | exact FlatC.out | exact PureLC.out | exact gt_any rfl | exact gts_nil | (apply gts_cons; (· exact gt_any rfl)) | exact okCells_of rfl rfl | assumption | exact rfl | fail)
    · have d2 : (!(decide (0 ≤ p) && decide (p ≤ c - 1))) = true := by simp; omega
      have hok : ¬ plOk c p = true := by unfold plOk; simp; omega
      have e1 : plC c p = 3 := if_neg hok
      have e2 : plV c p = 0 := if_neg hok
      rw [e1, e2]
      repeat' (first | refine T_seq ?_ | refine N_then ?_ | refine N_thenR ?_ | refine T_regX tyOk ?_ | refine S_nil ?_ | refine T_ret ?_ | (apply E_X <;> repeat' (first | exact resL_nil | (apply resL_tmp; (· exact rfl)) | (apply resL_cell; (· exact rfl); (· exact rfl); (· exact rfl); (· exact rfl); (· exact rfl); (· exact rfl)) | (apply resL_arr; (· exact rfl); (· exact rfl); (· exact rfl); (· exact rfl); (· (first | assumption | exact rfl))) | exact viewL_nil | apply viewL_cons | apply view_nothingE | (apply view_slE; (· exact rfl); (· first | exact rfl | assumption | (simp [bA_length]; done) | (simp [bA_length]; omega) | omega); (· exact PureEC.out)) | (apply view_loose; (· exact PureEC.out)) | apply view_agg | apply view_tup | (apply View.ofEq; (· exact PureC.out)) | exact rfl)) | (apply T_ifT; (· exact rfl); (· (first | assumption | exact rfl))) | (apply S_gf; (· exact rfl); (· exact rfl); (· (first | assumption | exact rfl))) | apply S_move | (apply S_pickF; (· exact gt_any rfl); (· (first | assumption | exact rfl))) | apply S_sub | apply S_not | apply S_alloc | (apply S_store1; (· exact rfl); (· exact gt_any rfl); (· exact rfl); (· exact rfl); (· exact rfl); (· exact rfl)) | (apply S_build; (· exact rfl); (· exact rfl); (· exact rfl); (· (repeat' (first | exact gtsP_nil | exact gt_any rfl | apply gtsP_cons))); (· (repeat' (first | exact BuildR.nil _ | (apply BuildR.cons; (· exact rfl); (· exact rfl); (· exact rfl); (· exact rfl); (· (first | nofun | assumption)); (· (repeat' constructor))))))) | apply S_callQ (f := 57) | apply in_cv | exact viewL_nil | apply viewL_cons | (apply View.pure; exact PureC.out) | exact FlatC.out | exact gt_any rfl | exact gts_nil | (apply gts_cons; (· exact gt_any rfl)) | exact okCells_of rfl rfl | assumption | exact rfl | fail)
  · have d1 : (!(decide (1 ≤ c) && decide (c ≤ 16))) = true := by simp; omega
    have hok : ¬ plOk c p = true := by unfold plOk; simp; omega
    have e1 : plC c p = 3 := if_neg hok
    have e2 : plV c p = 0 := if_neg hok
    rw [e1, e2]
    repeat' (first | refine T_seq ?_ | refine N_then ?_ | refine N_thenR ?_ | refine T_regX tyOk ?_ | refine S_nil ?_ | refine T_ret ?_ | (apply E_X <;> repeat' (first | exact resL_nil | (apply resL_tmp; (· exact rfl)) | (apply resL_cell; (· exact rfl); (· exact rfl); (· exact rfl); (· exact rfl); (· exact rfl); (· exact rfl)) | (apply resL_arr; (· exact rfl); (· exact rfl); (· exact rfl); (· exact rfl); (· (first | assumption | exact rfl))) | exact viewL_nil | apply viewL_cons | apply view_nothingE | (apply view_slE; (· exact rfl); (· first | exact rfl | assumption | (simp [bA_length]; done) | (simp [bA_length]; omega) | omega); (· exact PureEC.out)) | (apply view_loose; (· exact PureEC.out)) | apply view_agg | apply view_tup | (apply View.ofEq; (· exact PureC.out)) | exact rfl)) | (apply T_ifT; (· exact rfl); (· (first | assumption | exact rfl))) | (apply S_gfT'; (· exact rfl); (· exact rfl); (· exact rfl); (· (first | assumption | exact rfl))) | apply S_move | (apply S_pickT; (· exact gt_any rfl); (· (first | assumption | exact rfl))) | apply S_not | apply S_alloc | (apply S_store1; (· exact rfl); (· exact gt_any rfl); (· exact rfl); (· exact rfl); (· exact rfl); (· exact rfl)) | (apply S_build; (· exact rfl); (· exact rfl); (· exact rfl); (· (repeat' (first | exact gtsP_nil | exact gt_any rfl | apply gtsP_cons))); (· (repeat' (first | exact BuildR.nil _ | (apply BuildR.cons; (· exact rfl); (· exact rfl); (· exact rfl); (· exact rfl); (· (first | nofun | assumption)); (· (repeat' constructor))))))) | apply S_callQ (f := 57) | apply in_cv | exact viewL_nil | apply viewL_cons | (apply View.pure; exact PureC.out) | exact FlatC.out | exact gt_any rfl | exact gts_nil | (apply gts_cons; (· exact gt_any rfl)) | exact okCells_of rfl rfl | exact rfl | fail)

theorem specPathLength_cv (c p : Int) : CV Tryz.prog 195 [.int .i64 c, .int .i64 p] (· = /-flat-/ .agg [.int .i64 (plC c p), .int .i64 (plV c p)]) := by
  refine CV_intro tyOk Tryz.func195 (by kernel_rfl) rfl 21 rfl (by simp) [.cell 4 73] rfl ?_
  intro w0 ok0
  by_cases h1 : 1 ≤ c ∧ c ≤ 16
  · have d1 : (!(decide (1 ≤ c) && decide (c ≤ 16))) = false := by simp [h1]
    have w1 : IntKind.wrap .i64 (c - 1) = c - 1 := wrap_i64 (by omega) (by omega)
    by_cases h2 : 0 ≤ p ∧ p ≤ c - 1
    · have d2 : (!(decide (0 ≤ p) && decide (p ≤ c - 1))) = false := by simp [h2]
      have hok : plOk c p = true := by unfold plOk; simp [h1, h2]
      have e1 : plC c p = 0 := if_pos hok
      have e2 : plV c p = ((sidesL c.toNat p.toNat).length : Int) := if_pos hok
      rw [e1, e2]
      obtain ⟨c, rfl⟩ : ∃ n : Nat, c = (n : Int) := ⟨c.toNat, by omega⟩
      obtain ⟨p, rfl⟩ : ∃ n : Nat, p = (n : Int) := ⟨p.toNat, by omega⟩
      rw [Int.toNat_natCast, Int.toNat_natCast]
      have c0 := l3Sides_cv c p (by omega) (by omega) (by omega)
      have hm : (((sidesL c p).map not).map boA).length = (sidesL c p).length := by simp
      rw [← hm]
      repeat' (first | refine T_seq ?_ | refine N_then ?_ | refine T_regX tyOk ?_ | refine S_nil ?_ | refine T_skip ?_ | refine T_ret ?_ | (apply E_X <;> repeat' (first | exact resL_nil | (apply resL_tmp; (· exact rfl)) | (apply resL_cell; (· exact rfl); (· exact rfl); (· exact rfl); (· exact rfl); (· exact rfl); (· exact rfl)) | (apply resL_arr; (· exact rfl); (· exact rfl); (· exact rfl); (· exact rfl); (· (first | assumption | exact rfl))) | exact viewL_nil | apply viewL_cons | apply view_nothingE | (apply view_slE; (· exact rfl); (· first | exact rfl | assumption | (simp [bA_length]; done) | (simp [bA_length]; omega) | omega); (· exact PureEC.out)) | (apply view_loose; (· exact PureEC.out)) | apply view_agg | apply view_tup | (apply View.ofEq; (· exact PureC.out)) | exact rfl)) | (apply T_ifF; (· exact rfl); (· (first | assumption | exact rfl))) | (apply S_gf; (· exact rfl); (· exact rfl); (· (first | assumption | exact rfl))) | apply S_move | (apply S_pickF; (· exact gt_any rfl); (· (first | assumption | exact rfl))) | apply S_sub | apply S_not | (apply S_len_ls; (· exact rfl); (· exact gt_any rfl)) | apply S_alloc | (apply S_store1; (· exact rfl); (· exact gt_any rfl); (· exact rfl); (· exact rfl); (· exact rfl); (· exact rfl)) | (apply S_build; (· exact rfl); (· exact rfl); (· exact rfl); (· (repeat' (first | exact gtsP_nil | exact gt_any rfl | apply gtsP_cons))); (· (repeat' (first | exact BuildR.nil _ | (apply BuildR.cons; (· exact rfl); (· exact rfl); (· exact rfl); (· exact rfl); (· (first | nofun | assumption)); (· (repeat' constructor))))))) | apply S_call (f := 178) | apply c0 | apply S_callQ (f := 53) | apply l1In_cv | exact viewL_nil | apply viewL_cons | (apply View.pure; exact PureC.out) | exact FlatC.out | exact PureLC.out | exact gt_any rfl | exact gts_nil | (apply gts_cons; (· exact gt_any rfl)) | exact okCells_of rfl rfl | assumption | exact rfl | fail)
    · have d2 : (!(decide (0 ≤ p) && decide (p ≤ c - 1))) = true := by simp; omega
      have hok : ¬ plOk c p = true := by unfold plOk; simp; omega
      have e1 : plC c p = 3 := if_neg hok
      have e2 : plV c p = 0 := if_neg hok
      rw [e1, e2]
      repeat' (first | refine T_seq ?_ | refine N_then ?_ | refine N_thenR ?_ | refine T_regX tyOk ?_ | refine S_nil ?_ | refine T_ret ?_ | (apply E_X <;> repeat' (first | exact resL_nil | (apply resL_tmp; (· exact rfl)) | (apply resL_cell; (· exact rfl); (· exact rfl); (· exact rfl); (· exact rfl); (· exact rfl); (· exact rfl)) | (apply resL_arr; (· exact rfl); (· exact rfl); (· exact rfl); (· exact rfl); (· (first | assumption | exact rfl))) | exact viewL_nil | apply viewL_cons | apply view_nothingE | (apply view_slE; (· exact rfl); (· first | exact rfl | assumption | (simp [bA_length]; done) | (simp [bA_length]; omega) | omega); (· exact PureEC.out)) | (apply view_loose; (· exact PureEC.out)) | apply view_agg | apply view_tup | (apply View.ofEq; (· exact PureC.out)) | exact rfl)) | (apply T_ifT; (· exact rfl); (· (first | assumption | exact rfl))) | (apply S_gf; (· exact rfl); (· exact rfl); (· (first | assumption | exact rfl))) | apply S_move | (apply S_pickF; (· exact gt_any rfl); (· (first | assumption | exact rfl))) | apply S_sub | apply S_not | apply S_alloc | (apply S_store1; (· exact rfl); (· exact gt_any rfl); (· exact rfl); (· exact rfl); (· exact rfl); (· exact rfl)) | (apply S_build; (· exact rfl); (· exact rfl); (· exact rfl); (· (repeat' (first | exact gtsP_nil | exact gt_any rfl | apply gtsP_cons))); (· (repeat' (first | exact BuildR.nil _ | (apply BuildR.cons; (· exact rfl); (· exact rfl); (· exact rfl); (· exact rfl); (· (first | nofun | assumption)); (· (repeat' constructor))))))) | apply S_callQ (f := 53) | apply l1In_cv | exact viewL_nil | apply viewL_cons | (apply View.pure; exact PureC.out) | exact FlatC.out | exact gt_any rfl | exact gts_nil | (apply gts_cons; (· exact gt_any rfl)) | exact okCells_of rfl rfl | assumption | exact rfl | fail)
  · have d1 : (!(decide (1 ≤ c) && decide (c ≤ 16))) = true := by simp; omega
    have hok : ¬ plOk c p = true := by unfold plOk; simp; omega
    have e1 : plC c p = 3 := if_neg hok
    have e2 : plV c p = 0 := if_neg hok
    rw [e1, e2]
    repeat' (first | refine T_seq ?_ | refine N_then ?_ | refine N_thenR ?_ | refine T_regX tyOk ?_ | refine S_nil ?_ | refine T_ret ?_ | (apply E_X <;> repeat' (first | exact resL_nil | (apply resL_tmp; (· exact rfl)) | (apply resL_cell; (· exact rfl); (· exact rfl); (· exact rfl); (· exact rfl); (· exact rfl); (· exact rfl)) | (apply resL_arr; (· exact rfl); (· exact rfl); (· exact rfl); (· exact rfl); (· (first | assumption | exact rfl))) | exact viewL_nil | apply viewL_cons | apply view_nothingE | (apply view_slE; (· exact rfl); (· first | exact rfl | assumption | (simp [bA_length]; done) | (simp [bA_length]; omega) | omega); (· exact PureEC.out)) | (apply view_loose; (· exact PureEC.out)) | apply view_agg | apply view_tup | (apply View.ofEq; (· exact PureC.out)) | exact rfl)) | (apply T_ifT; (· exact rfl); (· (first | assumption | exact rfl))) | (apply S_gfT'; (· exact rfl); (· exact rfl); (· exact rfl); (· (first | assumption | exact rfl))) | apply S_move | (apply S_pickT; (· exact gt_any rfl); (· (first | assumption | exact rfl))) | apply S_not | apply S_alloc | (apply S_store1; (· exact rfl); (· exact gt_any rfl); (· exact rfl); (· exact rfl); (· exact rfl); (· exact rfl)) | (apply S_build; (· exact rfl); (· exact rfl); (· exact rfl); (· (repeat' (first | exact gtsP_nil | exact gt_any rfl | apply gtsP_cons))); (· (repeat' (first | exact BuildR.nil _ | (apply BuildR.cons; (· exact rfl); (· exact rfl); (· exact rfl); (· exact rfl); (· (first | nofun | assumption)); (· (repeat' constructor))))))) | apply S_callQ (f := 53) | apply l1In_cv | exact viewL_nil | apply viewL_cons | (apply View.pure; exact PureC.out) | exact FlatC.out | exact gt_any rfl | exact gts_nil | (apply gts_cons; (· exact gt_any rfl)) | exact okCells_of rfl rfl | exact rfl | fail)

theorem indexRows_cv (g : Nat) (caps : List AV) (ws : List (List UInt8)) (p : List UInt8 → Bool) (hp : PureC (.fn g caps)) (hv : ViewL [] caps caps) (hl : ws.length ≤ 1000000000) (hc : ∀ w ∈ ws, CV Tryz.prog g (byA w :: caps) (· = .bool (p w))) :
    CV Tryz.prog 173 [rowsA ws, .fn g caps] (· = .int .i64 (idxL p ws)) := by
  refine CV_intro tyOk Tryz.func173 (by kernel_rfl) rfl 19 rfl (by simp) [.tmp 4] rfl ?_
  intro w0 ok0
  have hml : (ws.map byA).length = ws.length := by simp
  have hF : idxL p ws = fiGo p (ws.drop 0) 0 := rfl
  repeat' (first | refine T_seq ?_ | refine N_then ?_ | refine T_regX tyOk ?_ | refine S_nil ?_ | refine T_block ?_ | apply S_move | apply S_assign | (apply S_len_ls; (· exact rfl); (· exact gt_any rfl)) | exact gt_any rfl | exact rfl | fail)
  refine T_roundsS (α := Nat) (fun k => ⟨[(0, rowsA ws), (1, .fn g caps), (7, .int .i64 (ws.map byA).length), (8, .int .i64 k)], [], 0⟩)
    (fun k => ws.length - k) (fun k => k ≤ ws.length ∧ idxL p ws = fiGo p (ws.drop k) k) 0 ((weak_of (by repeat' (first | exact keepE_nil | refine keepE_cons rfl ?_)) (by repeat' (first | exact keepB_nil | refine keepB_cons (by first | rfl | exact congrArg (fun l => some (Box.mk l _ _ _)) hset) ?_)) (Nat.le_refl _))).sub ⟨by omega, hF⟩ ?_
  rintro k ⟨hk, hI⟩
  by_cases hkl : k < ws.length
  · have d : decide ((k : Int) < ((ws.map byA).length : Int)) = true := by simp only [decide_eq_true_eq]; omega
    have hget := map_getD byA ws [] (k := k) (by omega)
    rw [fiGo_step p ws [] hkl] at hI
    have c0 := hc _ (getD_mem ws [] hkl)
    by_cases he : p (ws.getD k []) = true
    · rw [if_pos he] at hI
      rw [hI]
      rw [he] at c0
      repeat' (first | refine T_seq ?_ | refine N_then ?_ | refine N_thenR ?_ | refine N_blockR ?_ | refine N_againSR ?_ | refine T_regX tyOk ?_ | refine S_nil ?_ | refine T_skip ?_ | refine T_ret ?_ | refine T_block ?_ | (apply E_tmp; (· exact rfl); (· (repeat' (first | exact pure_int _ _ | exact pure_bool _ | exact pure_str _); done))) | (apply T_ifT; (· exact rfl); (· (first | assumption | exact rfl))) | apply S_move | apply S_assign | (apply S_loadV; (· exact rfl); (· exact gt_any rfl); (· exact rfl); (· (first | exact ⟨rfl, rfl⟩ | exact ⟨rfl, trivial⟩ | assumption))) | apply S_lss | (apply S_idxLs; (· exact rfl); (· exact rfl); (· exact gt_any rfl); (· exact gt_any rfl)) | apply S_callFC | apply c0 | apply viewL_cons | (apply View.pure; exact PureC.out) | exact FlatC.out | exact gt_any rfl | exact gts_nil | (apply gts_cons; (· exact gt_any rfl)) | assumption | (refine ⟨?_, ?_⟩ <;> omega) | exact rfl | fail)
    · rw [if_neg he] at hI
      simp only [Bool.not_eq_true] at he
      rw [he] at c0
      have hw : IntKind.wrap .i64 ((k : Int) + 1) = ((k + 1 : Nat) : Int) := by rw [wrap_i64 (by omega) (by omega)]; omega
      repeat' (first | refine T_seq ?_ | refine N_then ?_ | refine N_block ?_ | refine T_regX tyOk ?_ | refine S_nil ?_ | refine T_skip ?_ | refine T_block ?_ | (apply T_ifT; (· exact rfl); (· (first | assumption | exact rfl))) | (apply T_ifF; (· exact rfl); (· (first | assumption | exact rfl))) | apply S_move | apply S_assign | (apply S_loadV; (· exact rfl); (· exact gt_any rfl); (· exact rfl); (· (first | exact ⟨rfl, rfl⟩ | exact ⟨rfl, trivial⟩ | assumption))) | apply S_lss | apply S_add | (apply S_idxLs; (· exact rfl); (· exact rfl); (· exact gt_any rfl); (· exact gt_any rfl)) | apply S_callFC | apply c0 | apply viewL_cons | (apply View.pure; exact PureC.out) | exact FlatC.out | exact gt_any rfl | exact gts_nil | (apply gts_cons; (· exact gt_any rfl)) | assumption | (refine ⟨?_, ?_⟩ <;> omega) | exact rfl | fail)
      exact N_againS (k + 1) ((weak_of (by repeat' (first | exact keepE_nil | refine keepE_cons rfl ?_)) (by repeat' (first | exact keepB_nil | refine keepB_cons (by first | rfl | exact congrArg (fun l => some (Box.mk l _ _ _)) hset) ?_)) (Nat.le_refl _))).sub ⟨by omega, hI⟩ (by omega)
  · have d : decide ((k : Int) < ((ws.map byA).length : Int)) = false := by simp only [decide_eq_false_iff_not]; omega
    obtain rfl : k = ws.length := by omega
    rw [List.drop_length] at hI
    rw [hI]
    repeat' (first | refine T_seq ?_ | refine N_then ?_ | refine N_thenE ?_ | refine N_blockE ?_ | refine N_againSE ?_ | refine T_regX tyOk ?_ | refine S_nil ?_ | refine T_ret ?_ | refine T_exit ?_ | (apply E_tmp; (· exact rfl); (· (repeat' (first | exact pure_int _ _ | exact pure_bool _ | exact pure_str _); done))) | (apply T_ifF; (· exact rfl); (· (first | assumption | exact rfl))) | apply S_assign | apply S_lss | exact gt_any rfl | exact rfl | fail)

theorem containsRows_cv (g : Nat) (caps : List AV) (ws : List (List UInt8)) (p : List UInt8 → Bool) (hp : PureC (.fn g caps)) (hv : ViewL [] caps caps) (hl : ws.length ≤ 1000000000) (hc : ∀ w ∈ ws, CV Tryz.prog g (byA w :: caps) (· = .bool (p w))) :
    CV Tryz.prog 126 [rowsA ws, .fn g caps] (· = .bool (ws.any p)) := by
  refine CV_intro tyOk Tryz.func126 (by kernel_rfl) rfl 9 rfl (by simp) [.tmp 4] rfl ?_
  intro w0 ok0
  have c0 := indexRows_cv g caps ws p hp hv hl hc
  rw [← idxL_any]
  repeat' (first | refine T_seq ?_ | refine N_then ?_ | refine T_regX tyOk ?_ | refine S_nil ?_ | refine T_ret ?_ | (apply E_tmp; (· exact rfl); (· (repeat' (first | exact pure_int _ _ | exact pure_bool _ | exact pure_str _); done))) | apply S_move | apply S_assign | apply S_geq | apply S_callQ (f := 173) | apply c0 | exact viewL_nil | apply viewL_cons | (apply View.pure; exact PureC.out) | exact FlatC.out | exact gt_any rfl | exact gts_nil | (apply gts_cons; (· exact gt_any rfl)) | exact rfl | fail)

def rows32 (ws : List (List UInt8)) : Bool := ws.all fun w => decide (w.length = 32)
theorem any_not32 (ws : List (List UInt8)) : (!ws.any fun w => !decide (w.length = 32)) = rows32 ws := by
  unfold rows32
  induction ws with
  | nil => rfl
  | cons w ws ih => rw [List.any_cons, List.all_cons, Bool.not_or, ih, Bool.not_not]

theorem isDigest_cv (w : List UInt8) : CV Tryz.prog 183 [byA w] (· = .bool (decide (w.length = 32))) := by
  refine CV_intro tyOk Tryz.func183 (by kernel_rfl) rfl 6 rfl (by simp) [.tmp 2] rfl ?_
  intro w0 ok0
  have hl := bA_length w
  have e : decide (w.length = 32) = decide (((bA w).length : Int) = 32) := by
    by_cases h : w.length = 32
    · rw [decide_eq_true h, decide_eq_true (by omega)]
    · rw [decide_eq_false h, decide_eq_false (by omega)]
  rw [e]
  repeat' (first | refine T_seq ?_ | refine N_then ?_ | refine T_regX tyOk ?_ | refine S_nil ?_ | refine T_ret ?_ | (apply E_tmp; (· exact rfl); (· (repeat' (first | exact pure_int _ _ | exact pure_bool _ | exact pure_str _); done))) | apply S_move | apply S_assign | (apply S_eql; (· exact gt_any rfl); (· exact gt_any rfl)) | (apply S_len_ls; (· exact rfl); (· exact gt_any rfl)) | exact gt_any rfl | exact rfl | fail)

theorem areDigests1_cv (w : List UInt8) : CV Tryz.prog 182 [byA w] (· = .bool (!decide (w.length = 32))) := by
  refine CV_intro tyOk Tryz.func182 (by kernel_rfl) rfl 6 rfl (by simp) [.tmp 2] rfl ?_
  intro w0 ok0
  have c0 := isDigest_cv w
  repeat' (first | refine T_seq ?_ | refine N_then ?_ | refine T_regX tyOk ?_ | refine S_nil ?_ | refine T_ret ?_ | (apply E_tmp; (· exact rfl); (· (repeat' (first | exact pure_int _ _ | exact pure_bool _ | exact pure_str _); done))) | apply S_move | apply S_assign | apply S_not | apply S_callQ (f := 183) | apply c0 | exact viewL_nil | apply viewL_cons | (apply View.pure; exact PureC.out) | exact FlatC.out | exact gt_any rfl | exact gts_nil | (apply gts_cons; (· exact gt_any rfl)) | exact rfl | fail)

theorem areDigests_cv (ws : List (List UInt8)) (hl : ws.length ≤ 1000000000) : CV Tryz.prog 149 [rowsA ws] (· = .bool (rows32 ws)) := by
  refine CV_intro tyOk Tryz.func149 (by kernel_rfl) rfl 6 rfl (by simp) [.tmp 2] rfl ?_
  intro w0 ok0
  have c0 := containsRows_cv 182 [] ws (fun w => !decide (w.length = 32)) inferInstance viewL_nil hl (fun w _ => areDigests1_cv w)
  rw [← any_not32]
  repeat' (first | refine T_seq ?_ | refine N_then ?_ | refine T_regX tyOk ?_ | refine S_nil ?_ | refine T_ret ?_ | (apply E_tmp; (· exact rfl); (· (repeat' (first | exact pure_int _ _ | exact pure_bool _ | exact pure_str _); done))) | apply S_move | apply S_assign | apply S_not | apply S_callQ (f := 126) | apply c0 | exact viewL_nil | apply viewL_cons | (apply View.pure; exact PureC.out) | exact FlatC.out | exact gt_any rfl | exact gts_nil | (apply gts_cons; (· exact gt_any rfl)) | exact rfl | fail)

end Go.Proofs.YtaolmfgpebncjaaGreat
