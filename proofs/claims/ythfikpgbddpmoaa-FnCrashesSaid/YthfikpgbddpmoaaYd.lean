/- Logs and their records, by value. -/
import Derived.Test.YthfikpgbddpmoaaYc
import Derived.Test.YthfikpgbddpmoaaXl
import Derived.Test.YthfikpgbddpmoaaXi
set_option maxRecDepth 100000
set_option maxHeartbeats 3200000
set_option linter.unusedSimpArgs false
set_option linter.unusedVariables false
namespace Go.Proofs.Ythfikpgbddpmoaa
open Go.Av
attribute [local irreducible] T thenQ blockQ againQ againS WX retV retR Gt Gts GtsP okCells CV CR Av.Pure
attribute [local irreducible] sha nextV

theorem logRes_view {bx : List (Nat × Option Box)} {i j : Nat} {k : Int} {a b : List UInt8} (h1 : box? bx i = boxB a) (h2 : box? bx j = boxB b) : View bx (logResB i j k a.length b.length) (logResA k a b) :=
  view_agg ⟨.pure (pure_int _ _), view_slA h1 (bA_length _).symm (pureB_bA _), view_slA h2 (bA_length _).symm (pureB_bA _), trivial⟩

theorem implAppendLog_cv (a b p : List UInt8) (ha : a.length ≤ 1048576) (hb : b.length ≤ 1048576) (hp : p.length ≤ 1048576) : CV Try.prog 15 [logA a b, sl1 (bA p)] (· = logResA (apCode a b p) (apA a b p) (apB a b p)) :=
  (implAppendLog_cr a b p ha hb hp 0).toCV fun r bs n ⟨e1, e2, e3⟩ => by subst e1 e2; exact logRes_view rfl rfl

theorem implSyncLog_cv (a b : List UInt8) (ha : a.length ≤ 1048576) (hb : b.length ≤ 1048576) : CV Try.prog 18 [logA a b] (· = logResA (logFault a b) (syncOut a b) []) :=
  (implSyncLog_cr a b ha hb 0).toCV fun r bs n ⟨e1, e2, e3⟩ => by subst e1 e2; exact logRes_view (a := syncOut a b) (b := []) rfl rfl

theorem specFrameRecord_cv (p : List UInt8) (h : p.length ≤ 1073741824) : CV Try.prog 16 [sl1 (bA p)] (· = .agg [.int .i64 (frCode p), sl1 (bA (frOut p))]) :=
  (specFrameRecord_cr p h 0).toCV fun r bs n ⟨e1, e2, e3⟩ => by subst e1 e2; exact view_agg ⟨.pure (pure_int _ _), view_slA rfl (bA_length _).symm (pureB_bA _), trivial⟩

theorem implReadRecords_cv (d : List UInt8) (hd : d.length ≤ 2000) : CV Try.prog 24 [sl1 (bA d)] (· = .agg [.int .i64 0, .int .i64 (readAt d : Int), sl1 ((readRs d).map byA)]) := by
  refine CV_intro tyOk Try.func24 (by kernel_rfl) rfl 17 rfl (by simp) [.cell 2 37] rfl ?_
  intro w0 ok0
  have hl := bA_length d
  have d1 : decide ((2000 : Int) < ((bA d).length : Int)) = false := decide_eq_false (by omega)
  have c0 := readRecords_cv d (by omega)
  repeat' (first | refine T_seq ?_ | refine N_then ?_ | refine T_regX tyOk ?_ | refine S_nil ?_ | refine T_skip ?_ | refine T_ret ?_ | (apply E_X <;> repeat' (first | exact resL_nil | (apply resL_tmp; (· exact rfl)) | (apply resL_cell; (· exact rfl); (· exact rfl); (· exact rfl); (· exact rfl); (· exact rfl); (· exact rfl)) | (apply resL_arr; (· exact rfl); (· exact rfl); (· exact rfl); (· exact rfl); (· (first | assumption | exact rfl))) | exact viewL_nil | apply viewL_cons | apply view_nothingE | (apply view_slE; (· exact rfl); (· first | exact rfl | assumption | (simp [bA_length]; done) | (simp [bA_length]; omega) | omega); (· exact PureEC.out)) | (apply view_loose; (· exact PureEC.out)) | apply view_agg | apply view_tup | (apply View.ofEq; (· exact PureC.out)) | exact rfl)) | (apply T_ifF; (· exact rfl); (· (first | assumption | exact rfl))) | apply S_move | apply S_assign | apply S_gtr | (apply S_len_ls; (· exact rfl); (· exact gt_any rfl)) | apply S_extract | apply S_alloc | (apply S_store1; (· exact rfl); (· exact gt_any rfl); (· exact rfl); (· exact rfl); (· exact rfl); (· exact rfl)) | (apply S_build; (· exact rfl); (· exact rfl); (· exact rfl); (· (repeat' (first | exact gtsP_nil | exact gt_any rfl | apply gtsP_cons))); (· (repeat' (first | exact BuildR.nil _ | (apply BuildR.cons; (· exact rfl); (· exact rfl); (· exact rfl); (· exact rfl); (· (first | nofun | assumption)); (· (repeat' constructor))))))) | apply S_call (f := 90) | apply c0 | exact PureLC.out | exact gt_any rfl | exact gts_nil | (apply gts_cons; (· exact gt_any rfl)) | exact okCells_of rfl rfl | exact rfl | fail)

theorem concat_cv (ws : List (List UInt8)) (h : ws.flatten.length ≤ 1073741824) (h2 : ws.length ≤ 1073741824) : CV Try.prog 81 [sl1 (ws.map byA)] (· = sl1 (bA ws.flatten)) := CR.byVal (concat_cr ws h h2 0) (bA_length _).symm (pureB_bA _)

theorem implRecordsOf_cv (a b : List UInt8) (h : a.length + b.length ≤ 2000) : CV Try.prog 19 [logA a b] (· = .agg [.int .i64 0, .int .i64 (readAt (a ++ b) : Int), sl1 ((readRs (a ++ b)).map byA)]) := by
  refine CV_intro tyOk Try.func19 (by kernel_rfl) rfl 17 rfl (by simp) [.cell 2 37] rfl ?_
  intro w0 ok0
  have hf : logFault a b = 0 := if_neg (by omega)
  have c0 := implLogFault_cv a b (by omega) (by omega)
  rw [hf] at c0
  have hc : (!decide ((0 : Int) = 0)) = false := by decide
  have e : [a, b].flatten = a ++ b := by simp
  have c1 := concat_cv [a, b] (by rw [e, List.length_append]; omega) (by simp)
  rw [e] at c1
  have c1' : CV Try.prog 81 [.ls 1 false true [byA a, byA b]] (· = sl1 (bA (a ++ b))) :=
    c1.args rfl fun i x y hx hy => by
      match i, hx, hy with
      | 0, hx, hy => obtain rfl := Option.some.inj hx; obtain rfl := Option.some.inj hy; exact loose_ls _ _ _ _
  have c2 := implReadRecords_cv (a ++ b) (by rw [List.length_append]; omega)
  repeat' (first | refine T_seq ?_ | refine N_then ?_ | refine T_regX tyOk ?_ | refine S_nil ?_ | refine T_skip ?_ | refine T_ret ?_ | (apply E_X <;> repeat' (first | exact resL_nil | (apply resL_tmp; (· exact rfl)) | (apply resL_cell; (· exact rfl); (· exact rfl); (· exact rfl); (· exact rfl); (· exact rfl); (· exact rfl)) | (apply resL_arr; (· exact rfl); (· exact rfl); (· exact rfl); (· exact rfl); (· (first | assumption | exact rfl))) | exact viewL_nil | apply viewL_cons | apply view_nothingE | (apply view_slE; (· exact rfl); (· first | exact rfl | assumption | (simp [bA_length]; done) | (simp [bA_length]; omega) | omega); (· exact PureEC.out)) | (apply view_loose; (· exact PureEC.out)) | apply view_agg | apply view_tup | (apply View.ofEq; (· exact PureC.out)) | exact rfl)) | (apply T_ifF; (· exact rfl); (· (first | assumption | exact rfl))) | apply S_move | apply S_assign | (apply S_loadP; (· exact rfl); (· exact gt_any rfl); (· exact rfl); (· exact rfl); (· exact rfl); (· (first | exact ⟨rfl, rfl⟩ | exact ⟨rfl, trivial⟩ | assumption))) | (apply S_loadW; (· exact rfl); (· exact gt_any rfl); (· exact rfl); (· exact rfl); (· exact rfl); (· exact rfl); (· exact rfl); (· exact rfl)) | (apply S_fieldP; (· exact rfl); (· exact rfl); (· exact rfl); (· exact rfl); (· exact gt_any rfl)) | (apply S_neq; (· exact gt_any rfl); (· exact gt_any rfl)) | apply S_alloc | apply S_box | (apply S_store1; (· exact rfl); (· exact gt_any rfl); (· exact rfl); (· exact rfl); (· exact rfl); (· exact rfl)) | (apply S_buildV tyOk; (· exact rfl); (· exact rfl)) | apply S_call (f := 78) | apply c0 | apply S_call (f := 81) | apply c1' | apply S_call (f := 24) | apply c2 | exact PureLC.out | exact gtsI_nil | (apply gtsI_cons; (· exact gt_any rfl)) | exact elts_nil | apply elts_cons | (intro hu; cases hu; done) | exact gt_any rfl | exact gts_nil | (apply gts_cons; (· exact gt_any rfl)) | exact okCells_of rfl rfl | exact Nat.le_of_ble_eq_true rfl | exact rfl | fail)

theorem lwAt_cv (code : List UInt8) (i : Nat) (n : Int) (hi : i ≤ 1000000000) (hn : 1 < n ∧ n ≤ 200) (hc : code.length ≤ 1073741824) :
    CV Try.prog 17 [sl1 (bA code), .int .i64 (i : Int), .int .i64 n] (· = .int .i64 (if code.length = 0 then ((i * 7 : Nat) : Int) % n else (((code.getD (i % code.length) 0).toNat + i / code.length * 3 : Nat) : Int) % n)) := by
  refine CV_intro tyOk Try.func17 (by kernel_rfl) rfl 47 rfl (by simp) [.tmp 6] rfl ?_
  intro w0 ok0
  have hl := bA_length code
  have d1 : decide (n ≤ 1) = false := decide_eq_false (by omega)
  have hne : n ≠ 0 := by omega
  by_cases h2 : code.length = 0
  · have d2 : decide (((bA code).length : Int) = 0) = true := decide_eq_true (by omega)
    rw [if_pos h2]
    have w3 : IntKind.wrap .i64 ((i : Int) * 7) = ((i * 7 : Nat) : Int) := by rw [wrap_i64 (by omega) (by omega)]; omega
    have m1 := next_tmod (i * 7) (n := n) (by omega)
    repeat' (first | refine T_seq ?_ | refine N_then ?_ | refine N_thenR ?_ | refine T_regX tyOk ?_ | refine S_nil ?_ | refine T_skip ?_ | refine T_ret ?_ | (apply E_tmp; (· exact rfl); (· (repeat' (first | exact pure_int _ _ | exact pure_bool _ | exact pure_str _); done))) | (apply T_ifT; (· exact rfl); (· (first | assumption | exact rfl))) | (apply T_ifF; (· exact rfl); (· (first | assumption | exact rfl))) | apply S_move | apply S_assign | apply S_leq | (apply S_eql; (· exact gt_any rfl); (· exact gt_any rfl)) | apply S_mul | (apply S_len_ls; (· exact rfl); (· exact gt_any rfl)) | (apply S_remW; (· exact gt_any rfl); (· exact gt_any rfl); (· exact rfl); (· (first | exact Nat.le_of_ble_eq_true rfl | omega | decide))) | exact gt_any rfl | assumption | exact rfl | fail)
  · have d2 : decide (((bA code).length : Int) = 0) = false := decide_eq_false (by omega)
    have d3 : decide ((200 : Int) < n) = false := decide_eq_false (by omega)
    rw [if_neg h2]
    have hpos : ((bA code).length : Int) ≠ 0 := by omega
    have hm1 : i % code.length < code.length := Nat.mod_lt _ (by omega)
    have q1 : ((i : Int)).tmod ((bA code).length : Int) = ((i % code.length : Nat) : Int) := by rw [hl, Int.tmod_eq_emod_of_nonneg (by omega)]; omega
    have hq : i / code.length ≤ i := Nat.div_le_self _ _
    have q3 : IntKind.wrap .i64 (((i : Int)).tdiv ((bA code).length : Int)) = ((i / code.length : Nat) : Int) := by
      rw [hl, Int.tdiv_eq_ediv_of_nonneg (by omega), show ((i : Int)) / (code.length : Int) = ((i / code.length : Nat) : Int) by omega]
      have hq0 : (0 : Int) ≤ ((i / code.length : Nat) : Int) := Int.natCast_nonneg _
      have hq1 : ((i / code.length : Nat) : Int) ≤ (i : Int) := Int.ofNat_le.2 hq
      generalize ((i / code.length : Nat) : Int) = z at *
      exact wrap_i64 (by omega) (by omega)
    generalize i / code.length = qk at *
    have b1 := bA_getD code hm1
    have hb1 := UInt8.toNat_lt (code.getD (i % code.length) 0)
    have w3 : IntKind.wrap .i64 (((code.getD (i % code.length) 0).toNat : Int)) = ((code.getD (i % code.length) 0).toNat : Int) := wrap_i64 (by omega) (by omega)
    have w4 : IntKind.wrap .i64 ((qk : Int) * 3) = ((qk * 3 : Nat) : Int) := by rw [wrap_i64 (by omega) (by omega)]; omega
    have w5 : IntKind.wrap .i64 (((code.getD (i % code.length) 0).toNat : Int) + ((qk * 3 : Nat) : Int)) = (((code.getD (i % code.length) 0).toNat + qk * 3 : Nat) : Int) := by rw [wrap_i64 (by omega) (by omega)]; omega
    have m1 := next_tmod ((code.getD (i % code.length) 0).toNat + qk * 3) (n := n) (by omega)
    repeat' (first | refine T_seq ?_ | refine N_then ?_ | refine T_regX tyOk ?_ | (apply T_drawAll tyOk mixed; (· kernel_rfl)) | refine S_nil ?_ | refine T_skip ?_ | refine T_ret ?_ | (apply E_tmp; (· exact rfl); (· (repeat' (first | exact pure_int _ _ | exact pure_bool _ | exact pure_str _); done))) | (apply T_ifF; (· exact rfl); (· (first | assumption | exact rfl))) | apply S_move | apply S_assign | (apply S_loadV; (· exact rfl); (· exact gt_any rfl); (· exact rfl); (· (first | exact ⟨rfl, rfl⟩ | exact ⟨rfl, trivial⟩ | assumption))) | apply S_leq | apply S_gtr | (apply S_eql; (· exact gt_any rfl); (· exact gt_any rfl)) | apply S_add | apply S_mul | (apply S_conv; (· exact rfl); (· exact rfl); (· exact gt_any rfl)) | (apply S_len_ls; (· exact rfl); (· exact gt_any rfl)) | (apply S_quoW; (· exact gt_any rfl); (· exact gt_any rfl); (· exact rfl); (· (first | exact Nat.le_of_ble_eq_true rfl | omega | decide))) | (apply S_remW; (· exact gt_any rfl); (· exact gt_any rfl); (· exact rfl); (· (first | exact Nat.le_of_ble_eq_true rfl | omega | decide))) | (apply S_idxLs; (· exact rfl); (· exact rfl); (· exact gt_any rfl); (· exact gt_any rfl)) | exact gt_any rfl | assumption | (refine ⟨?_, ?_⟩ <;> omega) | exact rfl | fail)

theorem lwBytes_cv (a b : List UInt8) : CV Try.prog 20 [sl1 (bA a), sl1 (bA b)] (· = .bool (decide (a = b))) := by
  refine CV_intro tyOk Try.func20 (by kernel_rfl) rfl 10 rfl (by simp) [.tmp 4] rfl ?_
  intro w0 ok0
  have e := str_eq (bStr a) (bStr b)
  rw [strB_bStr, strB_bStr] at e
  rw [← e]
  repeat' (first | refine T_seq ?_ | refine N_then ?_ | refine T_regX tyOk ?_ | refine S_nil ?_ | refine T_ret ?_ | (apply E_tmp; (· exact rfl); (· (repeat' (first | exact pure_int _ _ | exact pure_bool _ | exact pure_str _); done))) | apply S_move | apply S_assign | (apply M_convBS; (· exact rfl); (· exact rfl); (· exact rfl); (· exact gt_any rfl); (· exact rfl)) | (apply S_strEq; (· exact gt_any rfl); (· exact gt_any rfl)) | exact gt_any rfl | exact rfl | fail)

theorem lwBig_cv (code : List UInt8) : CV Try.prog 13 [sl1 (bA code)] (· = .bool (decide (1048576 < code.length))) := by
  refine CV_intro tyOk Try.func13 (by kernel_rfl) rfl 6 rfl (by simp) [.tmp 2] rfl ?_
  intro w0 ok0
  have hl := bA_length code
  have e : decide (1048576 < code.length) = decide ((1048576 : Int) < ((bA code).length : Int)) := by
    by_cases h : 1048576 < code.length
    · rw [decide_eq_true h, decide_eq_true (by omega)]
    · rw [decide_eq_false h, decide_eq_false (by omega)]
  rw [e]
  repeat' (first | refine T_seq ?_ | refine N_then ?_ | refine T_regX tyOk ?_ | refine S_nil ?_ | refine T_ret ?_ | (apply E_tmp; (· exact rfl); (· (repeat' (first | exact pure_int _ _ | exact pure_bool _ | exact pure_str _); done))) | apply S_move | apply S_assign | apply S_gtr | (apply S_len_ls; (· exact rfl); (· exact gt_any rfl)) | exact gt_any rfl | exact rfl | fail)

/-! frames laid behind one another are read -/
def frames (l : List (List UInt8)) : List UInt8 := (l.map frameL).flatten
theorem frames_snoc (l : List (List UInt8)) (p : List UInt8) : frames (l ++ [p]) = frames l ++ frameL p := by simp [frames]
theorem frames_len (l : List (List UInt8)) (h : ∀ p ∈ l, p.length ≤ 60) : (frames l).length ≤ 65 * l.length := by
  induction l with
  | nil => simp [frames]
  | cons p l ih =>
    have h1 := ih fun q hq => h q (by simp [hq])
    have h2 := h p (by simp)
    have h3 : frames (p :: l) = frameL p ++ frames l := by simp [frames]
    rw [h3, List.length_append, frameL_length, List.length_cons]
    omega

theorem frame_at (pre : List UInt8) (p : List UInt8) (post : List UInt8) (h1 : p.length ≠ 0) (h2 : p.length ≤ 60) :
    ((pre ++ (frameL p ++ post)).getD pre.length 0).toNat = p.length ∧ recPay (pre ++ (frameL p ++ post)) pre.length = p ∧ recIs (pre ++ (frameL p ++ post)) pre.length = true := by
  have hb : ((pre ++ (frameL p ++ post)).getD pre.length 0).toNat = p.length := by
    rw [List.getD_eq_getElem?_getD, List.getElem?_append_right (Nat.le_refl _), Nat.sub_self]
    show (byteN p.length).toNat = p.length
    unfold byteN
    rw [UInt8.toNat_ofNat']
    omega
  have hp : recPay (pre ++ (frameL p ++ post)) pre.length = p := by
    unfold recPay
    rw [hb, List.drop_append, List.drop_of_length_le (by omega), show pre.length + 1 - pre.length = 1 by omega]
    show List.take p.length ([] ++ ((p ++ (sha (tagL recS ++ p)).take 4) ++ post)) = p
    rw [List.nil_append, List.append_assoc, List.take_left' rfl]
  refine ⟨hb, hp, ?_⟩
  unfold recIs
  rw [hb, hp]
  have hd : (pre ++ (frameL p ++ post)).drop pre.length = frameL p ++ post := List.drop_left' rfl
  rw [hd, List.take_left' (frameL_length p)]
  rw [decide_eq_true (by omega), decide_eq_true h2, decide_eq_true (by simp only [List.length_append, frameL_length]; omega), decide_eq_true rfl]
  rfl

theorem frames_split (l : List (List UInt8)) {k : Nat} (h : k < l.length) : frames l = frames (l.take k) ++ (frameL l[k] ++ frames (l.drop (k + 1))) := by
  have : l = l.take k ++ (l[k] :: l.drop (k + 1)) := by rw [← List.drop_eq_getElem_cons h, List.take_append_drop]
  calc frames l = frames (l.take k ++ (l[k] :: l.drop (k + 1))) := congrArg frames this
    _ = _ := by simp only [frames, List.map_append, List.map_cons, List.flatten_append, List.flatten_cons]

theorem frames_read (l : List (List UInt8)) (h : ∀ p ∈ l, p.length ≠ 0 ∧ p.length ≤ 60) : readRs (frames l) = l ∧ readAt (frames l) = (frames l).length := by
  have st : ∀ k, k ≤ l.length → rdSt (frames l) k = (l.take k, (frames (l.take k)).length) := by
    intro k
    induction k with
    | zero => intro _; simp [rdSt, frames]
    | succ k ih =>
      intro hk
      have ih := ih (by omega)
      have hlt : k < l.length := by omega
      obtain ⟨p1, p2⟩ := h l[k] (by simp)
      obtain ⟨f1, f2, f3⟩ := frame_at (frames (l.take k)) l[k] (frames (l.drop (k + 1))) p1 p2
      rw [← frames_split l hlt] at f1 f2 f3
      have hin : (frames (l.take k)).length < (frames l).length := by
        have := congrArg List.length (frames_split l hlt)
        simp only [List.length_append, frameL_length] at this
        omega
      have hn := rd_next (d := frames l) (k := k) (by rw [ih]; exact hin) (by rw [ih]; exact f3)
      rw [hn, ih]
      have ht : l.take (k + 1) = l.take k ++ [l[k]] := by rw [List.take_add_one, List.getElem?_eq_getElem hlt]; rfl
      simp only
      rw [f2, f1, ht, frames_snoc, List.length_append, frameL_length]
      congr 1
  have hs := st l.length (Nat.le_refl _)
  rw [List.take_length] at hs
  have hle : l.length ≤ (frames l).length := by
    have := (rd_le (frames l) l.length).2
    rw [hs] at this
    exact this
  have he := rd_end (d := frames l) (k := l.length) (by rw [hs]; omega) hle
  rw [hs] at he
  exact ⟨congrArg Prod.fst he, congrArg Prod.snd he⟩

end Go.Proofs.Ythfikpgbddpmoaa
