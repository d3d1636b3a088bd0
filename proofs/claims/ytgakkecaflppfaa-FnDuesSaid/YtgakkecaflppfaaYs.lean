/- The due item that is drawn. -/
import Derived.Test.YtgakkecaflppfaaYi
import Derived.Test.YtgakkecaflppfaaYb
import Derived.Test.YtgakkecaflppfaaWh
import Derived.Test.YtgakkecaflppfaaGj
set_option maxRecDepth 100000
set_option maxHeartbeats 3200000
set_option linter.unusedSimpArgs false
set_option linter.unusedVariables false
namespace Go.Proofs.Ytgakkecaflppfaa
open Go.Av
attribute [local irreducible] T thenQ blockQ againQ againS WX retV retR Gt Gts GtsP okCells CV CR Av.Pure
attribute [local irreducible] nextV pickV drwRel

theorem l11Relayer_atD (code : List UInt8) (k : Nat) (hk : k ≤ 1000000) (hc : code.length ≤ 1073741824) (id N : Nat) (hid : id < N) :
    CR Try.prog 99 [.ptr id 0 0] [(id, boxS code k)] N (Is (relB N (drwRel code k).cur (drwRel code k).que.length) [(id, boxS code (drwRel code k).at'), (N, boxQ (drwRel code k).que)] (N + 1)) :=
  (CR.toI (l11Relayer_cr code k hk hc) [id] rfl (by simp [*] <;> omega) _ (by simp [*] <;> omega) (by repeat' (first | exact Ren.sl _ _ _ _ | exact Ren.ptr _ _ _ | exact renL_nil | apply renL_cons | (apply Ren.pure; exact PureC.out) | apply ren_agg | apply ren_tup | exact renBs_nil | (apply renBs_pure; (· exact rfl); (· exact PureEC.out)) | (apply renBs_one; (· exact rfl)) | (apply renBs_list; (· exact rfl)) | exact renEL_nil | apply renEL_cons)) (by repeat' (first | exact Ren.sl _ _ _ _ | exact Ren.ptr _ _ _ | exact renL_nil | apply renL_cons | (apply Ren.pure; exact PureC.out) | apply ren_agg | apply ren_tup | exact renBs_nil | (apply renBs_pure; (· exact rfl); (· exact PureEC.out)) | (apply renBs_one; (· exact rfl)) | (apply renBs_list; (· exact rfl)) | exact renEL_nil | apply renEL_cons)) (by omega) (by repeat' (first | exact Ren.sl _ _ _ _ | exact Ren.ptr _ _ _ | exact renL_nil | apply renL_cons | (apply Ren.pure; exact PureC.out) | apply ren_agg | apply ren_tup | exact renBs_nil | (apply renBs_pure; (· exact rfl); (· exact PureEC.out)) | (apply renBs_one; (· exact rfl)) | (apply renBs_list; (· exact rfl)) | exact renEL_nil | apply renEL_cons)) (by repeat' (first | exact Ren.sl _ _ _ _ | exact Ren.ptr _ _ _ | exact renL_nil | apply renL_cons | (apply Ren.pure; exact PureC.out) | apply ren_agg | apply ren_tup | exact renBs_nil | (apply renBs_pure; (· exact rfl); (· exact PureEC.out)) | (apply renBs_one; (· exact rfl)) | (apply renBs_list; (· exact rfl)) | exact renEL_nil | apply renEL_cons)))

def drwDue (code : List UInt8) (k : Nat) : Int := pickV code (k + 2) [nextV code k 60, nextV code (k + 1) 20, 0, -1, 4611686018427387904]

theorem getD_ge (xs : List Int) (i : Nat) (h : ∀ x ∈ xs, -1 ≤ x) : -1 ≤ xs.getD i 0 := by
  rw [List.getD_eq_getElem?_getD]
  cases e : xs[i]? with
  | none => decide
  | some x => exact h x (List.mem_of_getElem? e)
attribute [local semireducible] pickV in
theorem drwDue_ge (code : List UInt8) (k : Nat) : -1 ≤ drwDue code k := by
  have h1 := nextV_range code k (n := 60) (by decide)
  have h2 := nextV_range code (k + 1) (n := 20) (by decide)
  refine getD_ge _ _ fun x hx => ?_
  simp only [List.mem_cons, List.not_mem_nil, or_false] at hx
  omega

theorem drawDueItem_cv (code : List UInt8) (hc : code.length ≤ 1048576) :
    CV Try.prog 59 [sl1 (bA code)] (· = .tup [relA (drwRel code 0).cur (drwRel code 0).que, .int .i64 (drwDue code (drwRel code 0).at')]) := by
  refine CV_intro tyOk Try.func59 (by kernel_rfl) rfl 18 rfl (by simp) [.cell 2 49, .tmp 3] rfl ?_
  intro w0 ok0
  obtain ⟨h1, h2⟩ := drwRel_le code 0
  have c0 := fun N => l1Source_cr code N
  have c1 := fun (id N : Nat) (hid : id < N) => l11Relayer_atD code 0 (by omega) (by omega) id N hid
  generalize drwRel code 0 = s at *
  obtain ⟨cur, que, k⟩ := s
  simp only at h1 h2 c1 ⊢
  unfold drwDue
  have a1 := fun (id N : Nat) (hid : id < N) => l1Next_at code k 60 (by omega) (by omega) id N hid
  have a2 := fun (id N : Nat) (hid : id < N) => l1Next_at code (k + 1) 20 (by omega) (by omega) id N hid
  have a3 := fun (id N : Nat) (hid : id < N) => l1Pick_at code (k + 1 + 1) [nextV code k 60, nextV code (k + 1) 20, 0, -1, 4611686018427387904] false true (by omega) (by omega) (by simp) (by simp) id N hid
  generalize pickV code (k + 1 + 1) [nextV code k 60, nextV code (k + 1) 20, 0, -1, 4611686018427387904] = p at *
  repeat' (first | refine T_seq ?_ | refine N_then ?_ | refine T_regX tyOk ?_ | (apply T_drawFs [0,1] (id := 3) 8 [3, 5, 6, 7] tyOk mixed; (· exact rfl); (· exact rfl); (· exact rfl); (· kernel_rfl); (· kernel_rfl); (· exact Nat.le_of_ble_eq_true rfl)) | refine S_nil ?_ | refine T_ret ?_ | (apply E_X <;> repeat' (first | exact resL_nil | (apply resL_tmp; (· exact rfl)) | (apply resL_cell; (· exact rfl); (· exact rfl); (· exact rfl); (· exact rfl); (· exact rfl); (· exact rfl)) | (apply resL_arr; (· exact rfl); (· exact rfl); (· exact rfl); (· exact rfl); (· (first | assumption | exact rfl))) | exact viewL_nil | apply viewL_cons | apply view_nothingE | (apply view_slE; (· exact rfl); (· first | exact rfl | assumption | (simp [bA_length]; done) | (simp [bA_length]; omega) | omega); (· exact PureEC.out)) | (apply view_loose; (· exact PureEC.out)) | apply view_agg | apply view_tup | (apply View.ofEq; (· exact PureC.out)) | exact rfl)) | apply S_move | apply S_assign | (apply S_loadW; (· exact rfl); (· exact gt_any rfl); (· exact rfl); (· exact rfl); (· exact rfl); (· exact rfl); (· exact rfl); (· exact rfl)) | apply S_alloc | (apply S_store1; (· exact rfl); (· exact gt_any rfl); (· exact rfl); (· exact rfl); (· exact rfl); (· exact rfl)) | (apply S_buildV tyOk; (· exact rfl); (· exact rfl)) | (apply L_callL ([1]) (f := 87); (· repeat' (first | exact gts_nil | exact gt_any rfl | apply gts_cons)); (· exact rfl); (· (apply a1) <;> first | assumption | decide | omega)) | (apply L_callL ([1]) (f := 87); (· repeat' (first | exact gts_nil | exact gt_any rfl | apply gts_cons)); (· exact rfl); (· (apply a2) <;> first | assumption | decide | omega)) | (apply L_callL ([1]) (f := 86); (· repeat' (first | exact gts_nil | exact gt_any rfl | apply gts_cons)); (· exact rfl); (· (apply a3) <;> first | assumption | decide | omega)) | refine L_quiet tyOk rfl ?_ | (apply S_callL ([]) (f := 85); (· repeat' (first | exact gts_nil | exact gt_any rfl | apply gts_cons)); (· exact rfl); (· (apply c0) <;> first | assumption | decide | omega)) | (apply S_callL ([1]) (f := 99); (· repeat' (first | exact gts_nil | exact gt_any rfl | apply gts_cons)); (· exact rfl); (· (apply c1) <;> first | assumption | decide | omega)) | exact gtsI_nil | (apply gtsI_cons; (· exact gt_any rfl)) | exact elts_nil | apply elts_cons | (intro hu; cases hu; done) | exact gt_any rfl | exact okCells_of rfl rfl | exact Nat.le_of_ble_eq_true rfl | exact rfl | fail)

theorem best_spec {q : List Itm} {now : Int} : ∀ {k j : Nat}, best q now k = some j → (q.getD j it0).after ≤ now ∧ j < k ∧ ∀ i, i < k → (q.getD i it0).after ≤ now → (q.getD j it0).after ≤ (q.getD i it0).after ∧ ((q.getD i it0).after = (q.getD j it0).after → j ≤ i)
  | 0, j, h => by cases h
  | k + 1, j, h => by
    rw [best] at h
    split at h
    · rename_i g
      cases h
      refine ⟨g.1, by omega, fun i hi hn => ?_⟩
      by_cases e : i = k
      · subst e; exact ⟨Int.le_refl _, fun _ => Nat.le_refl _⟩
      · cases hb : best q now k with
        | none =>
          exfalso
          have : ∀ m i, i < m → (q.getD i it0).after ≤ now → best q now m ≠ none := by
            intro m
            induction m with
            | zero => intro i hi; omega
            | succ m ih =>
              intro i hi hn hb
              rw [best] at hb
              split at hb
              · cases hb
              · rename_i g2
                by_cases e : i = m
                · subst e; exact g2 ⟨hn, fun j hj => by rw [hb] at hj; cases hj⟩
                · exact ih i (by omega) hn hb
          exact this k i (by omega) hn hb
        | some j' =>
          obtain ⟨a1, a2, a3⟩ := best_spec hb
          have := g.2 j' hb
          have := a3 i (by omega) hn
          exact ⟨by omega, fun e => by omega⟩
    · rename_i g
      obtain ⟨a1, a2, a3⟩ := best_spec h
      refine ⟨a1, by omega, fun i hi hn => ?_⟩
      by_cases e : i = k
      · subst e
        have : ¬ (q.getD i it0).after < (q.getD j it0).after := fun x => g ⟨hn, fun j' hj' => by rw [h] at hj'; cases hj'; exact x⟩
        exact ⟨by omega, fun _ => by omega⟩
      · exact a3 i (by omega) hn

theorem nonce_mono {c : Int} {q : List Itm} (h : relFault c q = 0) (i : Nat) : ∀ k, i + k + 1 < q.length → (q.getD i it0).nonce < (q.getD (i + k + 1) it0).nonce
  | 0, hk => ((relFault_all h).2.2 (i + 1) hk).2 (by omega)
  | k + 1, hk => by
    have a := nonce_mono h i k (by omega)
    have b := ((relFault_all h).2.2 (i + (k + 1) + 1) hk).2 (by omega)
    rw [show i + (k + 1) + 1 - 1 = i + k + 1 by omega] at b
    omega
theorem nonce_lt {c : Int} {q : List Itm} (h : relFault c q = 0) {i j : Nat} (hij : i < j) (hj : j < q.length) : (q.getD i it0).nonce < (q.getD j it0).nonce := by
  have := nonce_mono h i (j - i - 1) (by omega)
  rwa [show i + (j - i - 1) + 1 = j by omega] at this

end Go.Proofs.Ytgakkecaflppfaa
