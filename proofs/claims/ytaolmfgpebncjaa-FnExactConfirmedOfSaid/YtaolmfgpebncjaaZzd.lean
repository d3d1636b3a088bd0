/- Places deleted from a list. -/
import Derived.Test.YtaolmfgpebncjaaZzc
set_option maxRecDepth 100000
set_option maxHeartbeats 3200000
set_option linter.unusedSimpArgs false
set_option linter.unusedVariables false
namespace Go.Proofs.Ytaolmfgpebncjaa
open Go.Av
attribute [local irreducible] T thenQ blockQ againQ againS WX retV retR Gt Gts GtsP okCells CV CR Av.Pure

def keptL (p : Nat → Bool) (l : List Nat) : List Nat := l.filter fun x => !p x
theorem keptL_take (p : Nat → Bool) (l : List Nat) {k : Nat} (h : k < l.length) : keptL p (l.take (k + 1)) = keptL p (l.take k) ++ (if p (l.getD k 0) = true then [] else [l.getD k 0]) := by
  have e : l.take (k + 1) = l.take k ++ [l.getD k 0] := by rw [List.take_add_one, List.getElem?_eq_getElem h, List.getD_eq_getElem?_getD, List.getElem?_eq_getElem h]; rfl
  unfold keptL
  rw [e, List.filter_append]
  by_cases hp : p (l.getD k 0) = true
  · rw [if_pos hp, List.filter_cons_of_neg (by rw [hp]; decide)]; rfl
  · rw [if_neg hp, List.filter_cons_of_pos (by simpa using hp)]; rfl
theorem keptL_le (p : Nat → Bool) (l : List Nat) (k : Nat) : (keptL p (l.take k)).length ≤ k := by
  unfold keptL
  exact Nat.le_trans (List.length_filter_le _ _) (by rw [List.length_take]; omega)
theorem fiGo_none (p : Nat → Bool) : ∀ (l : List Nat) (i : Nat), fiGo p l i = -1 → keptL p l = l
  | [], _, _ => rfl
  | x :: l, i, h => by
    rw [fiGo] at h
    split at h
    · omega
    · rename_i q
      have := fiGo_none p l (i + 1) h
      unfold keptL at this ⊢
      rw [List.filter_cons_of_pos (by simpa using q), this]
theorem fiGo_some (p : Nat → Bool) : ∀ (l : List Nat) (i k : Nat), fiGo p l i = ((i + k : Nat) : Int) → k < l.length ∧ p (l.getD k 0) = true ∧ keptL p (l.take k) = l.take k
  | [], i, k, h => by rw [fiGo] at h; omega
  | x :: l, i, k, h => by
    rw [fiGo] at h
    split at h
    · rename_i q
      obtain rfl : k = 0 := by omega
      exact ⟨by simp, q, rfl⟩
    · rename_i q
      have hr := fiGo_range p l (i + 1)
      obtain ⟨m, rfl⟩ : ∃ m, k = m + 1 := ⟨k - 1, by omega⟩
      obtain ⟨h1, h2, h3⟩ := fiGo_some p l (i + 1) m (by rw [h]; omega)
      refine ⟨by simp; omega, h2, ?_⟩
      unfold keptL at h3 ⊢
      rw [List.take_succ_cons, List.filter_cons_of_pos (by simpa using q), h3]

def delE (p : Nat → Bool) (l : List Nat) (k : Nat) : List Nat := keptL p (l.take k) ++ l.drop (keptL p (l.take k)).length
theorem delE_length (p : Nat → Bool) (l : List Nat) {k : Nat} (h : k ≤ l.length) : (delE p l k).length = l.length := by
  have := keptL_le p l k
  unfold delE
  rw [List.length_append, List.length_drop]
  omega
theorem delE_get (p : Nat → Bool) (l : List Nat) {k : Nat} (h : k < l.length) : (delE p l k)[k]? = some (l.getD k 0) := by
  have := keptL_le p l k
  unfold delE
  rw [List.getElem?_append_right this, List.getElem?_drop, List.getD_eq_getElem?_getD]
  rw [show (keptL p (l.take k)).length + (k - (keptL p (l.take k)).length) = k by omega, List.getElem?_eq_getElem h]
  rfl
theorem delE_del (p : Nat → Bool) (l : List Nat) {k : Nat} (h : k < l.length) (hp : p (l.getD k 0) = true) : delE p l (k + 1) = delE p l k := by
  unfold delE
  rw [keptL_take p l h, if_pos hp, List.append_nil]
theorem delE_keep (p : Nat → Bool) (l : List Nat) {k : Nat} (h : k < l.length) (hp : ¬ p (l.getD k 0) = true) : (delE p l k).set (keptL p (l.take k)).length (l.getD k 0) = delE p l (k + 1) := by
  have hle := keptL_le p l k
  unfold delE
  rw [keptL_take p l h, if_neg hp, List.set_append_right _ _ (Nat.le_refl _), Nat.sub_self, List.length_append, List.append_assoc]
  congr 1
  rw [List.drop_eq_getElem_cons (by omega : (keptL p (l.take k)).length < l.length), List.set_cons_zero]
  rfl

theorem viewL_pure {bx : List (Nat × Option Box)} : ∀ {cs : List AV}, (∀ y ∈ cs, Av.Pure y) → ViewL bx cs cs
  | [], _ => viewL_nil
  | _ :: _, h => viewL_cons (View.pure (h _ (by simp))) (viewL_pure fun y hy => h y (by simp [hy]))
theorem view_ptrP {bx : List (Nat × Option Box)} {id : Nat} {b : Box} {cs : List AV} (hb : box? bx id = some b) (he : b.elems[0]? = some (.agg cs)) (h : PureAll cs) (k : ∀ y ∈ cs, Av.Pure y ∧ y.cellOk = true) : View bx (.ptr id 0 0) (.vp cs) :=
  view_ptr hb he (viewL_pure h.mem) (List.all_eq_true.2 fun y hy => (k y hy).2)

theorem delete_cr (g : Nat) (cs1 cs2 : List AV) (n1 n2 : Nat) (l : List Nat) (p : Nat → Bool) [PureLC cs1] [PureLC cs2] [CellsC cs1] [CellsC cs2] (hl : l.length ≤ 1000000) (hc : ∀ x ∈ l, CV Try.prog g [natA x, .vp cs1, .vp cs2] (· = .bool (p x))) :
    CR Try.prog 115 [.sl 0 0 l.length l.length, .fn g [.ptr 1 0 0, .ptr 2 0 0]] [(0, some ⟨l.map natA, 1, true, false⟩), (1, some ⟨[.agg cs1], n1, false, false⟩), (2, some ⟨[.agg cs2], n2, false, false⟩)] 3
      (Is (.sl 0 0 (keptL p l).length l.length) [(0, some ⟨(keptL p l).map natA ++ List.replicate (l.length - (keptL p l).length) (natA 0), 1, true, false⟩), (1, some ⟨[.agg cs1], n1, false, false⟩), (2, some ⟨[.agg cs2], n2, false, false⟩)] 3) := by
  refine CR_introU tyOk Try.func115 (by kernel_rfl) rfl 42 rfl (by simp) [.tmp 4] rfl ?_
  intro w0 ok0 wr φ0
  have hml : (l.map natA).length = l.length := by simp
  have hmt : (l.map natA).take l.length = l.map natA := List.take_of_length_le (by omega)
  have hmt2 : ((l.map natA).drop 0).take l.length = l.map natA := hmt
  have c0 := indexNat_cv g [.vp cs1, .vp cs2] l p inferInstance (by repeat' (first | exact viewL_nil | apply viewL_cons | (apply View.pure; exact PureC.out))) (by omega) hc
  have hr := idxL_range p l
  by_cases h1 : idxL p l = -1
  · have hk : keptL p l = l := fiGo_none p l 0 h1
    rw [h1] at c0
    rw [hk, Nat.sub_self]
    have d1 : decide ((-1 : Int) = -1) = true := rfl
    have ha : l.map natA ++ List.replicate 0 (natA 0) = l.map natA := by simp
    rw [ha]
    repeat' (first | refine T_seq ?_ | refine N_then ?_ | refine N_thenR ?_ | refine T_regX tyOk ?_ | refine S_nil ?_ | refine T_ret ?_ | (apply T_ifT; (· exact rfl); (· (first | assumption | exact rfl))) | apply S_move | apply S_assign | (apply S_eql; (· exact gt_any rfl); (· exact gt_any rfl)) | apply S_callQ (f := 114) | apply c0 | apply view_fn | (apply view_ptrP; (· exact rfl); (· exact rfl); (· exact PureLC.out); (· exact CellsC.out)) | exact viewL_nil | apply viewL_cons | (apply view_slM; (· exact rfl); (· (apply mlen; first | exact rfl | assumption | exact Nat.le_of_ble_eq_true rfl | omega | (simp [bA_length]; done) | (simp [bA_length]; omega))); (· exact PureEC.out)) | exact FlatC.out | exact gt_any rfl | exact gts_nil | (apply gts_cons; (· exact gt_any rfl)) | assumption | fail)
    (apply E_U0 [(0, 0)] <;> repeat' (first | exact resL_nil | (apply resL_tmp; (· exact rfl)) | (apply resL_cell; (· exact rfl); (· exact rfl); (· exact rfl); (· exact rfl); (· exact rfl); (· exact rfl)) | (apply resL_arr; (· exact rfl); (· exact rfl); (· exact rfl); (· exact rfl); (· (first | assumption | exact rfl))) | exact Ren.sl _ _ _ _ | (apply ren_slE; (· first | exact rfl | omega); (· first | exact rfl | assumption | (simp [bA_length]; done) | (simp [bA_length]; omega)); (· first | exact rfl | assumption | (simp [bA_length]; done) | (simp [bA_length]; omega))) | exact Ren.ptr _ _ _ | exact renL_nil | apply renL_cons | (apply Ren.pure; exact PureC.out) | apply ren_agg | apply ren_tup | exact Low.sl _ _ _ _ (by decide) | exact Low.ptr _ _ _ (by decide) | exact lowL_nil | apply lowL_cons | (apply Low.pure; exact PureC.out) | apply low_agg | apply low_tup | exact pullB_nil | (apply pullB_pureE; (· exact rfl); (· first | exact rfl | assumption | (simp [bA]; done)); (· exact PureEC.out)) | (apply pullB_one; (· exact rfl)) | exact lowBs_nil | apply lowBs_cons | (apply PureB.low; exact PureEC.out) | apply lowX_one | exact lowX_nil | exact rfl))
  · obtain ⟨i, hi⟩ : ∃ i : Nat, idxL p l = (i : Int) := ⟨(idxL p l).toNat, by omega⟩
    obtain ⟨hil, hip, hik⟩ := fiGo_some p l 0 i (by rw [Nat.zero_add]; exact hi)
    rw [hi] at c0 h1
    have d1 : decide ((i : Int) = -1) = false := decide_eq_false h1
    have w0 : IntKind.wrap .i64 ((i : Int) + 1) = ((i + 1 : Nat) : Int) := by rw [wrap_i64 (by omega) (by omega)]; omega
    have hk1 : keptL p (l.take (i + 1)) = l.take i := by rw [keptL_take p l hil, if_pos hip, hik, List.append_nil]
    have hkl : (keptL p (l.take (i + 1))).length = i := by rw [hk1, List.length_take]; omega
    have hE0 : delE p l (i + 1) = l := by unfold delE; rw [hkl, hk1]; exact List.take_append_drop i l
    repeat' (first | refine T_seq ?_ | refine N_then ?_ | refine T_regX tyOk ?_ | refine S_nil ?_ | refine T_skip ?_ | refine T_block ?_ | (apply T_ifF; (· exact rfl); (· (first | assumption | exact rfl))) | apply S_move | apply S_assign | (apply S_eql; (· exact gt_any rfl); (· exact gt_any rfl)) | apply S_add | apply S_callQ (f := 114) | apply c0 | apply view_fn | (apply view_ptrP; (· exact rfl); (· exact rfl); (· exact PureLC.out); (· exact CellsC.out)) | exact viewL_nil | apply viewL_cons | (apply view_slM; (· exact rfl); (· (apply mlen; first | exact rfl | assumption | exact Nat.le_of_ble_eq_true rfl | omega | (simp [bA_length]; done) | (simp [bA_length]; omega))); (· exact PureEC.out)) | exact FlatC.out | exact gt_any rfl | exact gts_nil | (apply gts_cons; (· exact gt_any rfl)) | assumption | exact rfl | fail)
    refine T_roundsS (α := Nat) (fun k => ⟨[(0, .sl 0 0 l.length l.length), (1, .fn g [.ptr 1 0 0, .ptr 2 0 0]), (5, .int .i64 ((keptL p (l.take k)).length : Nat)), (6, .int .i64 k)], [(0, some ⟨(delE p l k).map natA, 1, true, false⟩), (1, some ⟨[.agg cs1], n1, false, false⟩), (2, some ⟨[.agg cs2], n2, false, false⟩)], 3⟩)
      (fun k => l.length - k) (fun k => k ≤ l.length) (i + 1) (by rw [hkl, hE0]; exact ((weak_of (by repeat' (first | exact keepE_nil | refine keepE_cons rfl ?_)) (by repeat' (first | exact keepB_nil | refine keepB_cons (by first | rfl | exact congrArg (fun l => some (Box.mk l _ _ _)) hset) ?_)) (Nat.le_refl _))).sub) (by omega) ?_
    intro k hk
    have hkle := keptL_le p l k
    have hel := delE_length p l hk
    by_cases hkl : k < l.length
    · have d2 : decide ((k : Int) < (l.length : Int)) = true := decide_eq_true (by omega)
      have hget : ((delE p l k).map natA)[0 + ((k : Int)).toNat]? = some (natA (l.getD k 0)) := by
        rw [Nat.zero_add, Int.toNat_natCast, List.getElem?_map, delE_get p l hkl]; rfl
      have c1 := hc _ (getD_mem l 0 hkl)
      have hw : IntKind.wrap .i64 ((k : Int) + 1) = ((k + 1 : Nat) : Int) := by rw [wrap_i64 (by omega) (by omega)]; omega
      by_cases hp : p (l.getD k 0) = true
      · have hE := delE_del p l hkl hp
        have hn : keptL p (l.take (k + 1)) = keptL p (l.take k) := by rw [keptL_take p l hkl, if_pos hp, List.append_nil]
        rw [hp] at c1
        have e1 : (!true) = false := rfl
        repeat' (first | refine T_seq ?_ | refine N_then ?_ | refine N_block ?_ | refine T_regX tyOk ?_ | refine S_nil ?_ | refine T_skip ?_ | refine T_block ?_ | (apply M_loadP; (· exact rfl); (· exact gt_any rfl); (· exact rfl); (· (repeat' (first | assumption | apply get_set_same))); (· exact rfl); (· (first | exact ⟨rfl, rfl⟩ | exact ⟨rfl, trivial⟩ | assumption))) | (apply T_ifT; (· exact rfl); (· (first | assumption | exact rfl))) | (apply T_ifF; (· exact rfl); (· (first | assumption | exact rfl))) | apply S_move | apply S_assign | apply S_lss | apply S_add | apply S_not | (apply S_len_sl; (· exact rfl); (· exact gt_any rfl)) | (apply S_idxSl; (· exact rfl); (· exact rfl); (· exact gt_any rfl); (· exact rfl); (· exact gt_any rfl)) | apply S_callFC | apply c1 | (apply view_ptrP; (· exact rfl); (· exact rfl); (· exact PureLC.out); (· exact CellsC.out)) | exact viewL_nil | apply viewL_cons | (apply View.pure; exact PureC.out) | exact FlatC.out | exact gt_any rfl | exact gts_nil | (apply gts_cons; (· exact gt_any rfl)) | assumption | (refine ⟨?_, ?_⟩ <;> omega) | exact rfl | fail)
        refine N_againS (k + 1) ?_ (by omega) (by omega)
        rw [hE, hn]
        exact ((weak_of (by repeat' (first | exact keepE_nil | refine keepE_cons rfl ?_)) (by repeat' (first | exact keepB_nil | refine keepB_cons (by first | rfl | exact congrArg (fun l => some (Box.mk l _ _ _)) hset) ?_)) (Nat.le_refl _))).sub
      · have hE := delE_keep p l hkl hp
        have hn : (keptL p (l.take (k + 1))).length = (keptL p (l.take k)).length + 1 := by rw [keptL_take p l hkl, if_neg hp]; simp
        simp only [Bool.not_eq_true] at hp
        rw [hp] at c1
        have e1 : (!false) = true := rfl
        have hset : ((delE p l k).map natA).set (0 + ((((keptL p (l.take k)).length : Nat) : Int)).toNat) (natA (l.getD k 0)) = (delE p l (k + 1)).map natA := by
          rw [Nat.zero_add, Int.toNat_natCast, natA_set, hE]
        have hin : 0 + ((((keptL p (l.take k)).length : Nat) : Int)).toNat < ((delE p l k).map natA).length := by rw [List.length_map, hel]; omega
        have w2 : IntKind.wrap .i64 ((((keptL p (l.take k)).length : Nat) : Int) + 1) = (((keptL p (l.take (k + 1))).length : Nat) : Int) := by rw [hn, wrap_i64 (by omega) (by omega)]; omega
        have r1 : 0 ≤ (((keptL p (l.take k)).length : Nat) : Int) ∧ (((keptL p (l.take k)).length : Nat) : Int) < (l.length : Int) := by omega
        repeat' (first | refine T_seq ?_ | refine N_then ?_ | refine N_block ?_ | refine T_regX tyOk ?_ | refine S_nil ?_ | refine T_skip ?_ | refine T_block ?_ | (apply M_loadP; (· exact rfl); (· exact gt_any rfl); (· exact rfl); (· (repeat' (first | assumption | apply get_set_same))); (· exact rfl); (· (first | exact ⟨rfl, rfl⟩ | exact ⟨rfl, trivial⟩ | assumption))) | (apply T_ifT; (· exact rfl); (· (first | assumption | exact rfl))) | apply S_move | apply S_assign | apply S_lss | apply S_add | apply S_not | (apply S_len_sl; (· exact rfl); (· exact gt_any rfl)) | (apply S_idxSl; (· exact rfl); (· exact rfl); (· exact gt_any rfl); (· exact rfl); (· exact gt_any rfl)) | (apply S_storeE; (· exact rfl); (· exact gt_any rfl); (· exact rfl); (· exact rfl); (· exact rfl)) | apply S_callFC | apply c1 | (apply view_ptrP; (· exact rfl); (· exact rfl); (· exact PureLC.out); (· exact CellsC.out)) | exact viewL_nil | apply viewL_cons | (apply View.pure; exact PureC.out) | exact FlatC.out | exact gt_any rfl | exact gts_nil | (apply gts_cons; (· exact gt_any rfl)) | exact okCells_of rfl rfl | assumption | (refine ⟨?_, ?_⟩ <;> omega) | exact rfl | fail)
        exact N_againS (k + 1) ((weak_of (by repeat' (first | exact keepE_nil | refine keepE_cons rfl ?_)) (by repeat' (first | exact keepB_nil | refine keepB_cons (by first | rfl | exact congrArg (fun l => some (Box.mk l _ _ _)) hset) ?_)) (Nat.le_refl _))).sub (by omega) (by omega)
    · have d2 : decide ((k : Int) < (l.length : Int)) = false := decide_eq_false (by omega)
      obtain rfl : k = l.length := by omega
      have hfin : delE p l l.length = keptL p l ++ l.drop (keptL p l).length := by unfold delE; rw [List.take_length]
      rw [List.take_length] at hkle ⊢
      have hspl : splice ((delE p l l.length).map natA) (0 + (keptL p l).length) (List.replicate (l.length - (keptL p l).length) (natA 0)) = (keptL p l).map natA ++ List.replicate (l.length - (keptL p l).length) (natA 0) := by
        rw [hfin, Nat.zero_add]
        unfold splice
        rw [List.map_append, List.take_left' (by simp), List.drop_of_length_le (by simp), List.append_nil]
      repeat' (first | (apply mnorm; first | assumption | exact rfl) | refine T_seq ?_ | refine N_then ?_ | refine N_thenE ?_ | refine N_blockE ?_ | refine N_againSE ?_ | refine T_regX tyOk ?_ | refine S_nil ?_ | refine T_ret ?_ | refine T_exit ?_ | (apply T_ifF; (· exact rfl); (· (first | assumption | exact rfl))) | apply S_move | apply S_assign | apply S_lss | (apply S_len_sl; (· exact rfl); (· exact gt_any rfl)) | (apply M_slSl; (· exact rfl); (· exact rfl); (· exact gt_any rfl); (· exact rfl); (· exact rfl)) | (apply S_clear; (· exact rfl); (· exact rfl); (· exact gt_any rfl); (· exact rfl); (· exact rfl); (· exact rfl)) | (apply mlen; first | exact rfl | assumption | exact Nat.le_of_ble_eq_true rfl | omega | (simp [bA_length]; done) | (simp [bA_length]; omega)) | (apply mnat; first | exact Int.toNat_natCast _ | exact rfl) | exact Bd.no _ | (apply bd_at; (· exact gt_any rfl)) | exact gt_any rfl | exact okCells_of rfl rfl | exact Nat.le_of_ble_eq_true rfl | omega | exact rfl | fail)
      (apply E_U0 [(0, 0)] <;> repeat' (first | exact resL_nil | (apply resL_tmp; (· exact rfl)) | (apply resL_cell; (· exact rfl); (· exact rfl); (· exact rfl); (· exact rfl); (· exact rfl); (· exact rfl)) | (apply resL_arr; (· exact rfl); (· exact rfl); (· exact rfl); (· exact rfl); (· (first | assumption | exact rfl))) | exact Ren.sl _ _ _ _ | (apply ren_slE; (· first | exact rfl | omega); (· first | exact rfl | assumption | (simp [bA_length]; done) | (simp [bA_length]; omega)); (· first | exact rfl | assumption | (simp [bA_length]; done) | (simp [bA_length]; omega))) | exact Ren.ptr _ _ _ | exact renL_nil | apply renL_cons | (apply Ren.pure; exact PureC.out) | apply ren_agg | apply ren_tup | exact Low.sl _ _ _ _ (by decide) | exact Low.ptr _ _ _ (by decide) | exact lowL_nil | apply lowL_cons | (apply Low.pure; exact PureC.out) | apply low_agg | apply low_tup | exact pullB_nil | (apply pullB_pureE; (· exact rfl); (· first | exact rfl | assumption | (simp [bA]; done)); (· exact PureEC.out)) | (apply pullB_one; (· exact rfl)) | exact lowBs_nil | apply lowBs_cons | (apply PureB.low; exact PureEC.out) | apply lowX_one | exact lowX_nil | exact rfl))

end Go.Proofs.Ytaolmfgpebncjaa
