/- Logs that crash are drawn; what is read of a part. -/
import Derived.Test.YthfikpgbddpmoaaYk
import Derived.Test.YthfikpgbddpmoaaYd
import Derived.Test.YthfikpgbddpmoaaYb
import Derived.Test.YthfikpgbddpmoaaWlc
import Derived.Test.YthfikpgbddpmoaaGj
set_option maxRecDepth 100000
set_option maxHeartbeats 3200000
set_option linter.unusedSimpArgs false
set_option linter.unusedVariables false
namespace Go.Proofs.Ythfikpgbddpmoaa
open Go.Av
attribute [local irreducible] T thenQ blockQ againQ againS WX retV retR Gt Gts GtsP okCells CV CR Av.Pure
attribute [local irreducible] nextV sha payV payN pickV drwLog frameL

theorem rec_take {D : List UInt8} {K q : Nat} (h : recIs (D.take K) q = true) :
    recIs D q = true ∧ recPay (D.take K) q = recPay D q ∧ (D.take K).getD q 0 = D.getD q 0 := by
  obtain ⟨h1, h2, h3, h4⟩ := recIs_ok h
  have hl : (D.take K).length ≤ K ∧ (D.take K).length ≤ D.length := by rw [List.length_take]; omega
  have hg : (D.take K).getD q 0 = D.getD q 0 := by
    rw [List.getD_eq_getElem?_getD, List.getD_eq_getElem?_getD, List.getElem?_take, if_pos (by omega)]
  rw [hg] at h1 h2 h3 h4
  have hp : recPay (D.take K) q = recPay D q := by
    unfold recPay
    rw [hg, List.drop_take, List.take_take, Nat.min_eq_left (by omega)]
  have hf : ((D.take K).drop q).take ((D.getD q 0).toNat + 5) = (D.drop q).take ((D.getD q 0).toNat + 5) := by
    rw [List.drop_take, List.take_take, Nat.min_eq_left (by omega)]
  rw [hf, hp] at h4
  refine ⟨?_, hp, hg⟩
  unfold recIs
  simp only [Bool.and_eq_true, decide_eq_true_eq]
  exact ⟨⟨⟨h1, h2⟩, by omega⟩, h4⟩
theorem rec_kept {D : List UInt8} {K q : Nat} (h : recIs D q = true) (hK : q + (D.getD q 0).toNat + 5 ≤ K) :
    recIs (D.take K) q = true ∧ recPay (D.take K) q = recPay D q ∧ (D.take K).getD q 0 = D.getD q 0 := by
  obtain ⟨h1, h2, h3, h4⟩ := recIs_ok h
  have hg : (D.take K).getD q 0 = D.getD q 0 := by
    rw [List.getD_eq_getElem?_getD, List.getD_eq_getElem?_getD, List.getElem?_take, if_pos (by omega)]
  have hp : recPay (D.take K) q = recPay D q := by
    unfold recPay
    rw [hg, List.drop_take, List.take_take, Nat.min_eq_left (by omega)]
  have hf : ((D.take K).drop q).take ((D.getD q 0).toNat + 5) = (D.drop q).take ((D.getD q 0).toNat + 5) := by
    rw [List.drop_take, List.take_take, Nat.min_eq_left (by omega)]
  refine ⟨?_, hp, hg⟩
  unfold recIs
  rw [hp, hg, hf]
  simp only [Bool.and_eq_true, decide_eq_true_eq]
  exact ⟨⟨⟨h1, h2⟩, by rw [List.length_take]; omega⟩, h4⟩

abbrev rdOk (d : List UInt8) (k : Nat) : Prop := (rdSt d k).2 < d.length ∧ recIs d (rdSt d k).2 = true
theorem rd_take (D : List UInt8) (K : Nat) : ∀ k, ∃ j, j ≤ k ∧ rdSt (D.take K) k = rdSt D j
  | 0 => ⟨0, Nat.le_refl _, rfl⟩
  | k + 1 => by
    obtain ⟨j, hj, e⟩ := rd_take D K k
    by_cases h : rdOk (D.take K) k
    · refine ⟨j + 1, by omega, ?_⟩
      obtain ⟨g1, g2, g3⟩ := rec_take h.2
      rw [rd_next h.1 h.2, g2, g3]
      rw [e] at g1 ⊢
      obtain ⟨q1, q2, q3, q4⟩ := recIs_ok g1
      rw [rd_next (by omega) g1]
    · exact ⟨j, by omega, by rw [← e]; exact rd_stop h 1⟩
theorem rd_pre (D : List UInt8) (j : Nat) : ∀ k, ∃ t, (rdSt D (j + k)).1 = (rdSt D j).1 ++ t
  | 0 => ⟨[], by simp⟩
  | k + 1 => by
    obtain ⟨t, e⟩ := rd_pre D j k
    by_cases h : rdOk D (j + k)
    · exact ⟨t ++ [recPay D (rdSt D (j + k)).2], by rw [← Nat.add_assoc, rd_next h.1 h.2, e, List.append_assoc]⟩
    · exact ⟨t, by rw [← Nat.add_assoc, rd_stop h 1, e]⟩
theorem readRs_take (D : List UInt8) (K : Nat) : ∃ t, readRs D = readRs (D.take K) ++ t := by
  unfold readRs
  obtain ⟨j, hj, e⟩ := rd_take D K (D.take K).length
  have hl : (D.take K).length ≤ D.length := by rw [List.length_take]; omega
  rw [e]
  obtain ⟨t, h⟩ := rd_pre D j (D.length - j)
  rw [show j + (D.length - j) = D.length by omega] at h
  exact ⟨t, h⟩
theorem rd_ge (P : List UInt8) : ∀ k, k ≤ (rdSt P k).2 ∨ ¬ rdOk P k
  | 0 => .inl (Nat.zero_le _)
  | k + 1 => by
    by_cases h : rdOk P k
    · rcases rd_ge P k with g | g
      · left
        rw [rd_next h.1 h.2]
        show k + 1 ≤ _ + _ + 5
        omega
      · exact absurd h g
    · right
      have := rd_stop h 1
      intro q
      unfold rdOk at q
      rw [this] at q
      exact h q
theorem rd_up (P : List UInt8) (j : Nat) : ∀ k, (rdSt P j).2 ≤ (rdSt P (j + k)).2
  | 0 => Nat.le_refl _
  | k + 1 => by
    have ih := rd_up P j k
    by_cases h : rdOk P (j + k)
    · rw [← Nat.add_assoc, rd_next h.1 h.2]
      show _ ≤ _ + _ + 5
      omega
    · rw [← Nat.add_assoc, rd_stop h 1]; exact ih
theorem rd_all (P : List UInt8) (k : Nat) : (rdSt P k).2 ≤ readAt P := by
  unfold readAt
  by_cases h : k ≤ P.length
  · have := rd_up P k (P.length - k)
    rwa [show k + (P.length - k) = P.length by omega] at this
  · have hs : ¬ rdOk P P.length := by
      rcases rd_ge P P.length with g | g
      · intro q; exact absurd q.1 (by omega)
      · exact g
    have := rd_stop hs (k - P.length)
    rw [show P.length + (k - P.length) = k by omega] at this
    rw [this]; exact Nat.le_refl _
theorem rd_rec (P : List UInt8) : ∀ k, rdSt (P.take (readAt P)) k = rdSt P k
  | 0 => rfl
  | k + 1 => by
    have ih := rd_rec P k
    have hl : (P.take (readAt P)).length = readAt P := by rw [List.length_take]; have := readAt_le P; omega
    by_cases h : rdOk P k
    · have hn := rd_all P (k + 1)
      rw [rd_next h.1 h.2] at hn
      obtain ⟨g1, g2, g3⟩ := rec_kept (K := readAt P) h.2 hn
      rw [rd_next h.1 h.2]
      rw [← ih] at g1 g2 g3 ⊢
      rw [rd_next (by rw [hl, ih]; have : (rdSt P k).2 + (P.getD (rdSt P k).2 0).toNat + 5 ≤ readAt P := hn; omega) g1, g2, g3]
    · have h' : ¬ rdOk (P.take (readAt P)) k := by
        intro q
        obtain ⟨q1, q2⟩ := q
        rw [ih] at q1 q2
        obtain ⟨g1, g2, g3⟩ := rec_take q2
        obtain ⟨r1, r2, r3, r4⟩ := recIs_ok g1
        exact h ⟨by omega, g1⟩
      rw [rd_stop h' 1, rd_stop h 1, ih]
theorem read_rec (P : List UInt8) : readRs (P.take (readAt P)) = readRs P ∧ readAt (P.take (readAt P)) = readAt P := by
  have hl : (P.take (readAt P)).length = readAt P := by rw [List.length_take]; have := readAt_le P; omega
  have hs : ¬ rdOk P (readAt P) := by
    rcases rd_ge P (readAt P) with g | g
    · intro q
      have h1 := rd_all P (readAt P + 1)
      rw [rd_next q.1 q.2] at h1
      have : (rdSt P (readAt P)).2 + (P.getD (rdSt P (readAt P)).2 0).toNat + 5 ≤ readAt P := h1
      omega
    · exact g
  have e := rd_stop hs (P.length - readAt P)
  rw [show readAt P + (P.length - readAt P) = P.length by have := readAt_le P; omega] at e
  have e2 : rdSt (P.take (readAt P)) (P.take (readAt P)).length = rdSt P P.length := by rw [hl, rd_rec, e]
  constructor
  · show (rdSt (P.take (readAt P)) (P.take (readAt P)).length).1 = _
    rw [e2]; rfl
  · show (rdSt (P.take (readAt P)) (P.take (readAt P)).length).2 = _
    rw [e2]; rfl

theorem l10Log_at (code : List UInt8) (k : Nat) (hk : k ≤ 1000000) (hc : code.length ≤ 1073741824) (id N : Nat) (hid : id < N) :
    CR Try.prog 83 [.ptr id 0 0] [(id, boxS code k)] N (Is (.agg [.sl N 0 (drwLog code k).a.length (drwLog code k).a.length, .sl (N + 1) 0 (drwLog code k).n (drwLog code k).b.length])
      [(id, boxS code (drwLog code k).at'), (N, some ⟨bA (drwLog code k).a, 1, (drwLog code k).sl, false⟩), (N + 1, boxB (drwLog code k).b)] (N + 2)) :=
  (CR.toI (l10Log_cr code k hk hc) [id] rfl (by simp [*] <;> omega) _ (by simp [*] <;> omega) (by repeat' (first | exact Ren.sl _ _ _ _ | exact Ren.ptr _ _ _ | exact renL_nil | apply renL_cons | (apply Ren.pure; exact PureC.out) | apply ren_agg | apply ren_tup | exact renBs_nil | (apply renBs_pure; (· exact rfl); (· exact PureEC.out)) | (apply renBs_one; (· exact rfl)) | (apply renBs_list; (· exact rfl)) | exact renEL_nil | apply renEL_cons)) (by repeat' (first | exact Ren.sl _ _ _ _ | exact Ren.ptr _ _ _ | exact renL_nil | apply renL_cons | (apply Ren.pure; exact PureC.out) | apply ren_agg | apply ren_tup | exact renBs_nil | (apply renBs_pure; (· exact rfl); (· exact PureEC.out)) | (apply renBs_one; (· exact rfl)) | (apply renBs_list; (· exact rfl)) | exact renEL_nil | apply renEL_cons)) (by omega) (by repeat' (first | exact Ren.sl _ _ _ _ | exact Ren.ptr _ _ _ | exact renL_nil | apply renL_cons | (apply Ren.pure; exact PureC.out) | apply ren_agg | apply ren_tup | exact renBs_nil | (apply renBs_pure; (· exact rfl); (· exact PureEC.out)) | (apply renBs_one; (· exact rfl)) | (apply renBs_list; (· exact rfl)) | exact renEL_nil | apply renEL_cons)) (by repeat' (first | exact Ren.sl _ _ _ _ | exact Ren.ptr _ _ _ | exact renL_nil | apply renL_cons | (apply Ren.pure; exact PureC.out) | apply ren_agg | apply ren_tup | exact renBs_nil | (apply renBs_pure; (· exact rfl); (· exact PureEC.out)) | (apply renBs_one; (· exact rfl)) | (apply renBs_list; (· exact rfl)) | exact renEL_nil | apply renEL_cons)))

def drwP (code : List UInt8) : Int := pickV code ((drwLog code 0).at' + 1) [nextV code (drwLog code 0).at' (((drwLog code 0).n : Int) + 1), ((drwLog code 0).n : Int), 0, ((drwLog code 0).n : Int) + 1, -1]
theorem drawCrashLog_cv (code : List UInt8) (hc : code.length ≤ 1048576) : CV Try.prog 21 [byA code] (· = .tup [logA (drwLog code 0).a ((drwLog code 0).b.take (drwLog code 0).n), .int .i64 (drwP code)]) := by
  refine CV_intro tyOk Try.func21 (by kernel_rfl) rfl 25 rfl (by simp) [.cell 2 25, .tmp 3] rfl ?_
  intro w0 ok0
  obtain ⟨h1, h2, h3, h4⟩ := drwLog_le code 0
  have c0 := fun N => l1Source_cr code N
  have c1 := fun (id N : Nat) (hid : id < N) => l10Log_at code 0 (by omega) (by omega) id N hid
  unfold drwP
  generalize (drwLog code 0).a = a at *
  generalize (drwLog code 0).b = b at *
  generalize (drwLog code 0).n = n at *
  generalize (drwLog code 0).at' = k at *
  generalize (drwLog code 0).sl = sl at *
  have hb := bA_length b
  have ha := bA_length a
  have hla : a.length = (bA a).length := ha.symm
  have hn : 0 + n ≤ (bA b).length := by omega
  have ht : List.take n (List.drop 0 (bA b)) = bA (b.take n) := by rw [List.drop_zero]; simp [bA]
  have w1 : IntKind.wrap .i64 ((n : Int) + 1) = (n : Int) + 1 := wrap_i64 (by omega) (by omega)
  have c2 := fun (id N : Nat) (hid : id < N) => l1Next_at code k ((n : Int) + 1) (by omega) (by omega) id N hid
  have c3 := fun (id N : Nat) (hid : id < N) => l1Pick_at code (k + 1) [nextV code k ((n : Int) + 1), (n : Int), 0, (n : Int) + 1, -1] false true (by omega) (by omega) (by simp) (by simp) id N hid
  generalize pickV code (k + 1) [nextV code k ((n : Int) + 1), (n : Int), 0, (n : Int) + 1, -1] = p at *
  repeat' (first | refine T_seq ?_ | refine N_then ?_ | refine T_regX tyOk ?_ | (apply T_drawFs [1] (id := 4) 11 [5, 9, 10] tyOk mixed; (· exact rfl); (· exact rfl); (· exact rfl); (· kernel_rfl); (· kernel_rfl); (· exact Nat.le_of_ble_eq_true rfl)) | refine S_nil ?_ | refine T_ret ?_ | (apply E_X <;> repeat' (first | exact resL_nil | (apply resL_tmp; (· exact rfl)) | (apply resL_cell; (· exact rfl); (· exact rfl); (· exact rfl); (· exact rfl); (· exact rfl); (· exact rfl)) | (apply resL_arr; (· exact rfl); (· exact rfl); (· exact rfl); (· exact rfl); (· (first | assumption | exact rfl))) | exact viewL_nil | apply viewL_cons | apply view_nothingE | (apply view_slE; (· exact rfl); (· first | exact rfl | assumption | (simp [bA_length]; done) | (simp [bA_length]; omega) | omega); (· exact PureEC.out)) | (apply view_loose; (· exact PureEC.out)) | apply view_agg | apply view_tup | (apply View.ofEq; (· exact PureC.out)) | exact rfl)) | apply S_move | apply S_assign | (apply S_loadP; (· exact rfl); (· exact gt_any rfl); (· exact rfl); (· exact rfl); (· exact rfl); (· (first | exact ⟨rfl, rfl⟩ | exact ⟨rfl, trivial⟩ | assumption))) | (apply S_loadW; (· exact rfl); (· exact gt_any rfl); (· exact rfl); (· exact rfl); (· exact rfl); (· exact rfl); (· exact rfl); (· exact rfl)) | (apply S_fieldP; (· exact rfl); (· exact rfl); (· exact rfl); (· exact rfl); (· exact gt_any rfl)) | apply S_add | (apply S_len_sl; (· exact rfl); (· exact gt_any rfl)) | apply S_alloc | (apply S_store1; (· exact rfl); (· exact gt_any rfl); (· exact rfl); (· exact rfl); (· exact rfl); (· exact rfl)) | (apply S_buildV tyOk; (· exact rfl); (· exact rfl)) | (apply L_callL ([1]) (f := 85); (· repeat' (first | exact gts_nil | exact gt_any rfl | apply gts_cons)); (· exact rfl); (· (apply c2) <;> first | assumption | decide | omega)) | (apply L_callL ([1]) (f := 84); (· repeat' (first | exact gts_nil | exact gt_any rfl | apply gts_cons)); (· exact rfl); (· (apply c3) <;> first | assumption | decide | omega)) | refine L_quiet tyOk rfl ?_ | (apply S_callL ([]) (f := 77); (· repeat' (first | exact gts_nil | exact gt_any rfl | apply gts_cons)); (· exact rfl); (· (apply c0) <;> first | assumption | decide | omega)) | (apply S_callL ([1]) (f := 83); (· repeat' (first | exact gts_nil | exact gt_any rfl | apply gts_cons)); (· exact rfl); (· (apply c1) <;> first | assumption | decide | omega)) | exact gtsI_nil | (apply gtsI_cons; (· exact gt_any rfl)) | exact elts_nil | apply elts_cons | (intro hu; cases hu; done) | exact gt_any rfl | exact okCells_of rfl rfl | assumption | exact Nat.le_of_ble_eq_true rfl | exact rfl | fail)
  exact view_slP rfl hn (pureB_bA _) ht

theorem logResV {bx : List (Nat × Option Box)} {i j : Nat} {k : Int} {a b : List UInt8} (h1 : box? bx i = boxB a) (h2 : box? bx j = boxB b) : View bx (logResB i j k a.length b.length) (logResA k a b) := logRes_view h1 h2
theorem implCrashLog_cv (a b : List UInt8) (k : Int) (ha : a.length ≤ 1048576) (hb : b.length ≤ 1048576) : CV Try.prog 22 [logA a b, .int .i64 k] (· = logResA (crashCode a b k) (crashOut a b k) []) :=
  (implCrashLog_cr a b k ha hb 0).toCV fun r bs n ⟨e1, e2, e3⟩ => by subst e1 e2; exact logRes_view (a := crashOut a b k) (b := []) rfl rfl
theorem specCrashLog_cv (a b : List UInt8) (k : Int) (ha : a.length ≤ 1048576) (hb : b.length ≤ 1048576) : CV Try.prog 23 [logA a b, .int .i64 k] (· = logResA (crashCode a b k) (crashOut a b k) []) :=
  (specCrashLog_cr a b k ha hb 0).toCV fun r bs n ⟨e1, e2, e3⟩ => by subst e1 e2; exact logRes_view (a := crashOut a b k) (b := []) rfl rfl
theorem implRecoverLog_cv (a b : List UInt8) (ha : a.length ≤ 1048576) (hb : b.length ≤ 1048576) : CV Try.prog 25 [logA a b] (· = logResA (rcCode a b) (rcOut a b) []) :=
  (implRecoverLog_cr a b ha hb 0).toCV fun r bs n ⟨e1, e2, e3⟩ => by subst e1 e2; exact logRes_view (a := rcOut a b) (b := []) rfl rfl

end Go.Proofs.Ythfikpgbddpmoaa
