/- The law of events. -/
import Derived.Test.YtmaginepopldnaaDoorZzt
import Derived.Test.YtmaginepopldnaaDoorYb
import Derived.Test.YtmaginepopldnaaDoorYd
import Derived.Test.YtmaginepopldnaaDoorWt
import Derived.Test.YtmaginepopldnaaDoorGi
import Derived.Test.YtmaginepopldnaaDoorGj
set_option maxRecDepth 100000
set_option maxHeartbeats 3200000
set_option linter.unusedSimpArgs false
set_option linter.unusedVariables false
namespace Go.Proofs.YtmaginepopldnaaDoor
open Go.Av

theorem byteOf_nat (b : UInt8) : byteOf (b.toNat : Int) = b := by
  have h := byteOf_int (b.toNat : Int)
  have hb := UInt8.toNat_lt b
  apply UInt8.toNat_inj.1
  omega
theorem putN_num {w : List UInt8} (h : w.length = 7) : putN (numV w : Int) = w := by
  match w, h with
  | [b0, b1, b2, b3, b4, b5, b6], _ =>
    have h0 := UInt8.toNat_lt b0
    have h1 := UInt8.toNat_lt b1
    have h2 := UInt8.toNat_lt b2
    have h3 := UInt8.toNat_lt b3
    have h4 := UInt8.toNat_lt b4
    have h5 := UInt8.toNat_lt b5
    have h6 := UInt8.toNat_lt b6
    have hN : numV [b0, b1, b2, b3, b4, b5, b6] = (((((b0.toNat * 256 + b1.toNat) * 256 + b2.toNat) * 256 + b3.toNat) * 256 + b4.toNat) * 256 + b5.toNat) * 256 + b6.toNat := by simp [numV]
    rw [hN]
    clear hN
    generalize hn : (((((b0.toNat * 256 + b1.toNat) * 256 + b2.toNat) * 256 + b3.toNat) * 256 + b4.toNat) * 256 + b5.toNat) * 256 + b6.toNat = n
    have e0 := byteOf_int ((n : Int).fdiv (2 ^ 48))
    have e1 := byteOf_int ((n : Int).fdiv (2 ^ 40))
    have e2 := byteOf_int ((n : Int).fdiv (2 ^ 32))
    have e3 := byteOf_int ((n : Int).fdiv (2 ^ 24))
    have e4 := byteOf_int ((n : Int).fdiv (2 ^ 16))
    have e5 := byteOf_int ((n : Int).fdiv (2 ^ 8))
    have e6 := byteOf_int (n : Int)
    unfold putN
    generalize byteOf ((n : Int).fdiv (2 ^ 48)) = c0 at *
    generalize byteOf ((n : Int).fdiv (2 ^ 40)) = c1 at *
    generalize byteOf ((n : Int).fdiv (2 ^ 32)) = c2 at *
    generalize byteOf ((n : Int).fdiv (2 ^ 24)) = c3 at *
    generalize byteOf ((n : Int).fdiv (2 ^ 16)) = c4 at *
    generalize byteOf ((n : Int).fdiv (2 ^ 8)) = c5 at *
    generalize byteOf (n : Int) = c6 at *
    rw [Int.fdiv_eq_ediv_of_nonneg _ (by decide)] at e0 e1 e2 e3 e4 e5
    have q0 : c0 = b0 := UInt8.toNat_inj.1 (by omega)
    have q1 : c1 = b1 := UInt8.toNat_inj.1 (by omega)
    have q2 : c2 = b2 := UInt8.toNat_inj.1 (by omega)
    have q3 : c3 = b3 := UInt8.toNat_inj.1 (by omega)
    have q4 : c4 = b4 := UInt8.toNat_inj.1 (by omega)
    have q5 : c5 = b5 := UInt8.toNat_inj.1 (by omega)
    have q6 : c6 = b6 := UInt8.toNat_inj.1 (by omega)
    rw [q0, q1, q2, q3, q4, q5, q6]

theorem byteN_nat (b : UInt8) : byteN b.toNat = b := by
  apply UInt8.toNat_inj.1
  have := UInt8.toNat_lt b
  simp [byteN]
theorem byteN_toNat {n : Nat} (h : n ≤ 200) : (byteN n).toNat = n := by
  simp [byteN]; omega
theorem packL_snoc (ws : List (List UInt8)) (w : List UInt8) : packL (ws ++ [w]) = packL ws ++ byteN w.length :: w := by simp [packL]
theorem packL_app (a b : List (List UInt8)) : packL (a ++ b) = packL a ++ packL b := by simp [packL]

theorem upGo_pack (d : List UInt8) : ∀ (f : Nat) (ws : List (List UInt8)) (a : Nat) (t : Int) (W : List (List UInt8)), a ≤ d.length → d.length - a ≤ f → packL ws = d.take a → upGo d f ws a = (0, t, W) → packL W = d
  | 0, ws, a, t, W, ha, hf, hp, h => by
    rw [upGo] at h
    obtain ⟨_, _, rfl⟩ := eq3 h
    rw [hp, List.take_of_length_le (by omega)]
  | f + 1, ws, a, t, W, ha, hf, hp, h => by
    rw [upGo] at h
    split at h
    · rename_i h1
      split at h
      · obtain ⟨q, _⟩ := eq3 h; cases q
      split at h
      · obtain ⟨q, _⟩ := eq3 h; cases q
      split at h
      · obtain ⟨q, _⟩ := eq3 h; cases q
      rename_i h2 h3 h4
      refine upGo_pack d f _ _ t W (by omega) (by omega) ?_ h
      have hl : ((d.drop (a + 1)).take (d.getD a 0).toNat).length = (d.getD a 0).toNat := by rw [List.length_take, List.length_drop]; omega
      rw [packL_snoc, hl, byteN_nat, hp, Nat.add_assoc, List.take_add, List.drop_eq_getElem_cons h1, Nat.add_comm 1, List.take_succ_cons, List.getD_eq_getElem?_getD, List.getElem?_eq_getElem h1]
      rfl
    · obtain ⟨_, _, rfl⟩ := eq3 h
      rw [hp, List.take_of_length_le (by omega)]

theorem upGo_words : ∀ (rest pre : List (List UInt8)) (f : Nat), (∀ w ∈ rest, w.length ≤ 200) → pre.length + rest.length ≤ 60 → (packL rest).length ≤ f → upGo (packL pre ++ packL rest) f pre (packL pre).length = (0, 0, pre ++ rest)
  | [], pre, f, _, _, _ => by
    rw [upGo_done (by simp [packL]), List.append_nil]
  | w :: rest, pre, f, hw, hn, hf => by
    have e : packL (w :: rest) = byteN w.length :: (w ++ packL rest) := rfl
    have h1 := hw w List.mem_cons_self
    rw [e] at hf ⊢
    rw [List.length_cons, List.length_append] at hf
    rw [List.length_cons] at hn
    obtain ⟨g, rfl⟩ : ∃ g, f = g + 1 := ⟨f - 1, by omega⟩
    have hg : (packL pre ++ byteN w.length :: (w ++ packL rest)).getD (packL pre).length 0 = byteN w.length := by
      rw [List.getD_eq_getElem?_getD, List.getElem?_append_right (Nat.le_refl _), Nat.sub_self]; rfl
    have hl : (packL pre ++ byteN w.length :: (w ++ packL rest)).length = (packL pre).length + (w.length + (packL rest).length + 1) := by simp
    have hd : (packL pre ++ byteN w.length :: (w ++ packL rest)).drop ((packL pre).length + 1) = w ++ packL rest := by
      rw [← List.drop_drop, List.drop_left]; rfl
    rw [upGo, hg, byteN_toNat h1, if_pos (by omega), if_neg (by omega), if_neg (by omega), if_neg (by omega), hd, List.take_left]
    have ih := upGo_words rest (pre ++ [w]) g (fun x hx => hw x (List.mem_cons_of_mem _ hx)) (by rw [List.length_append, List.length_singleton]; omega) (by omega)
    rw [packL_snoc, List.append_assoc] at ih
    have hlen : (packL pre ++ byteN w.length :: w).length = (packL pre).length + 1 + w.length := by simp; omega
    rw [hlen, List.append_assoc, List.cons_append] at ih
    simpa using ih

theorem upEv_ok {d : List UInt8} {E : Evt} (h : upEv d = (0, E)) : evFault E = 0 ∧ evP E = d := by
  unfold upEv at h
  have hc : (upL d).1 = 0 := by
    by_cases q : (upL d).1 = 0
    · exact q
    · rw [upL_codes q] at h; cases h
  have hp : packL (upL d).2.2 = d := by
    have hu : upL d = ((upL d).1, (upL d).2.1, (upL d).2.2) := rfl
    unfold upL at hu hc ⊢
    by_cases hb : 4000 < d.length
    · rw [if_pos hb] at hc; cases hc
    · rw [if_neg hb] at hu hc ⊢
      rw [hc] at hu
      exact upGo_pack d _ _ _ _ _ (Nat.zero_le _) (by omega) rfl hu
  generalize (upL d).2.2 = ws at *
  unfold upE at h
  split at h
  · rename_i b w1 w2 w3
    split at h
    · rename_i hh
      obtain ⟨h1, h2, h3⟩ := hh
      have hE : E = evOf b w1 w2 w3 := by cases h; rfl
      subst hE
      refine ⟨h3, ?_⟩
      have : evW (evOf b w1 w2 w3) = [[b], w1, w2, w3] := by
        show [[byteOf (b.toNat : Int)], putN (numV w1 : Int), putN (numV w2 : Int), strB (bStr w3)] = _
        rw [byteOf_nat, putN_num h1, putN_num h2]; rfl
      unfold evP
      rw [this, hp]
    · cases h
  · cases h

theorem upEv_evP {e : Evt} (h : evFault e = 0) : upEv (evP e) = (0, e) := by
  obtain ⟨g1, g2, g3⟩ := evW_pack h
  obtain ⟨k1, ⟨k2, k3, k4, k5⟩, _⟩ := ev_zero h
  have hu : upL (evP e) = (0, 0, evW e) := by
    unfold upL
    rw [if_neg (by omega)]
    have := upGo_words (evW e) [] (evP e).length (fun w hw => by have := g2 w hw; omega) (by rw [g1]; decide) (Nat.le_refl _)
    rw [packL_nil, List.nil_append] at this
    exact this
  unfold upEv
  rw [hu]
  obtain ⟨k, n, a, s⟩ := e
  dsimp only at k1 k2 k3 k4 k5
  have hk : ((byteOf k).toNat : Int) = k := by
    have := byteOf_int k
    have hk : k = 1 ∨ k = 2 := by
      have : isKind k = true := k1
      unfold isKind at this
      simpa using this
    omega
  have hn : (numV (putN n) : Int) = n := numV_put (by omega) (by omega)
  have ha : (numV (putN a) : Int) = a := numV_put (by omega) (by omega)
  have hE : evOf (byteOf k) (putN n) (putN a) (strB s) = ⟨k, n, a, s⟩ := by
    unfold evOf
    rw [hk, hn, ha]; rfl
  show (if (putN n).length = 7 ∧ (putN a).length = 7 ∧ evFault (evOf (byteOf k) (putN n) (putN a) (strB s)) = 0 then (0, evOf (byteOf k) (putN n) (putN a) (strB s)) else ((5 : Int), e0)) = _
  rw [hE, if_pos ⟨putN_length _, putN_length _, h⟩]

theorem upE_codes (ws : List (List UInt8)) : (upE ws).1 = 0 ∨ (upE ws).1 = 5 := by
  unfold upE
  split
  · split
    · exact .inl rfl
    · exact .inr rfl
  · exact .inr rfl
theorem drawD_le (code : List UInt8) (e : Evt) (k : Nat) : (drawD code e k).length ≤ 53 := by
  have h := evOut_le e
  unfold drawD
  split
  · omega
  split
  · omega
  split
  · rw [List.length_set]; omega
  split
  · rw [List.length_take]; omega
  · rw [List.length_append, List.length_singleton]; omega

attribute [local irreducible] T thenQ blockQ againQ againS WX retV retR Gt Gts GtsP okCells CV CR Av.Pure
attribute [local irreducible] nextV pickV upEv evFault evOut evP drawD l9E

theorem law_Events (code : List UInt8) (hc : code.length ≤ 9223372036854775807) : CV Tryd.prog 6 [byA code] (· = .bool true) := by
  refine CV_intro tyOk Tryd.func6 (by kernel_rfl) rfl 69 rfl (by simp) [.tmp 2] rfl ?_
  intro w0 ok0
  have hbig := lwBig_cv code
  by_cases g : 1048576 < code.length
  · rw [decide_eq_true g] at hbig
    repeat' (first | refine T_seq ?_ | refine N_then ?_ | refine N_thenR ?_ | refine T_regX tyOk ?_ | refine S_nil ?_ | refine T_ret ?_ | (apply E_tmp; (· exact rfl); (· (repeat' (first | exact pure_int _ _ | exact pure_bool _ | exact pure_str _); done))) | (apply T_ifT; (· exact rfl); (· (first | assumption | exact rfl))) | apply S_move | apply S_assign | apply S_callQ (f := 21) | apply hbig | exact viewL_nil | apply viewL_cons | (apply View.pure; exact PureC.out) | exact FlatC.out | exact gt_any rfl | exact gts_nil | (apply gts_cons; (· exact gt_any rfl)) | exact rfl | fail)
  rw [decide_eq_false g] at hbig
  have c0 := drawPackEvent_cv code (by omega)
  have c2 := drawUnpackEvent_cv code (by omega)
  have hDl := drawD_le code (l9E code 0).1 (l9E code 0).2
  generalize drawD code (l9E code 0).1 (l9E code 0).2 = D at *
  generalize (l9E code 0).1 = e at *
  have c1 := implPackEvent_cv e
  have c3 := implUnpackEvent_cv D (by omega)
  have hok := fun E => upEv_ok (d := D) (E := E)
  have c6 := specUnpackEvent_cv D (by omega)
  have c7 := specEvtFault_cv e
  have c8 := implUnpackEvent_cv (evOut e) (by have := evOut_le e; omega)
  have hr := evOut_le e
  have hz : evFault e = 0 → upEv (evOut e) = (0, e) := fun h => by
    have : evOut e = evP e := by unfold evOut; rw [if_pos h]
    rw [this]; exact upEv_evP h
  have hl := bA_length (evOut e)
  have hle : decide (((bA (evOut e)).length : Int) ≤ 60) = true := decide_eq_true (by omega)
  generalize hU : upEv D = U at *
  obtain ⟨uc, E⟩ := U
  dsimp only at c3 c6
  have n1 : (!true) = false := rfl
  by_cases u0 : uc = 0
  · subst u0
    obtain ⟨q1, q2⟩ := hok E rfl
    have c4 := implPackEvent_cv E
    have hE : evOut E = D := by unfold evOut; rw [if_pos q1]; exact q2
    rw [q1, hE] at c4
    have c5 := lwBytes_cv D D
    rw [decide_eq_true rfl] at c5
    have d0 : (!decide ((0 : Int) = 0)) = false := rfl
    by_cases p0 : evFault e = 0
    · rw [hz p0] at c8
      rw [p0] at c1
      dsimp only at c8
      obtain ⟨k, n, a, s⟩ := e
      obtain ⟨k', n', a', s'⟩ := E
      have hcs : cellsEq [.int .i64 k, .int .i64 n, .int .i64 a, .str s] [.int .i64 k, .int .i64 n, .int .i64 a, .str s] = true := by simp [cellsEq]
      repeat' (first | refine T_seq ?_ | refine N_then ?_ | refine T_regX tyOk ?_ | (apply T_drawAll tyOk mixed; (· kernel_rfl)) | refine S_nil ?_ | refine T_skip ?_ | refine T_ret ?_ | (apply E_tmp; (· exact rfl); (· (repeat' (first | exact pure_int _ _ | exact pure_bool _ | exact pure_str _); done))) | (apply S_eqAgg [.int .i64, .int .i64, .int .i64, .str]; (· exact gt_any rfl); (· exact gt_any rfl); (· (kernel_rfl)); (· exact rfl); (· exact rfl); (· (first | assumption | exact rfl)); (· exact rfl)) | (apply T_ifF; (· exact rfl); (· (first | assumption | exact rfl))) | (apply S_gt; (· exact rfl); (· exact rfl); (· (first | assumption | exact rfl))) | (apply S_gf; (· exact rfl); (· exact rfl); (· (first | assumption | exact rfl))) | (apply S_gtF'; (· exact rfl); (· exact rfl); (· exact rfl); (· (first | assumption | exact rfl))) | apply S_move | apply S_assign | (apply S_pickT; (· exact gt_any rfl); (· (first | assumption | exact rfl))) | (apply S_pickF; (· exact gt_any rfl); (· (first | assumption | exact rfl))) | (apply S_loadP; (· exact rfl); (· exact gt_any rfl); (· exact rfl); (· exact rfl); (· exact rfl); (· (first | exact ⟨rfl, rfl⟩ | exact ⟨rfl, trivial⟩ | assumption))) | (apply S_loadW; (· exact rfl); (· exact gt_any rfl); (· exact rfl); (· exact rfl); (· exact rfl); (· exact rfl); (· exact rfl); (· exact rfl)) | (apply M_loadA; (· exact rfl); (· exact rfl); (· exact gt_any rfl); (· exact rfl); (· exact rfl); (· (repeat' constructor))) | (apply M_field1; (· exact rfl); (· exact rfl); (· exact rfl); (· exact gt_any rfl); (· exact rfl); (· (first | exact ⟨rfl, rfl⟩ | exact ⟨rfl, trivial⟩ | assumption))) | (apply S_fieldP; (· exact rfl); (· exact rfl); (· exact rfl); (· exact rfl); (· exact gt_any rfl)) | apply S_leq | (apply S_eql; (· exact gt_any rfl); (· exact gt_any rfl)) | (apply S_neq; (· exact gt_any rfl); (· exact gt_any rfl)) | apply S_not | (apply S_len_ls; (· exact rfl); (· exact gt_any rfl)) | apply S_alloc | (apply S_store1; (· exact rfl); (· exact gt_any rfl); (· exact rfl); (· exact rfl); (· exact rfl); (· exact rfl)) | apply S_callQ (f := 21) | apply hbig | apply S_call (f := 22) | apply c0 | apply S_call (f := 12) | apply c1 | apply S_call (f := 23) | apply c2 | apply S_call (f := 18) | apply c3 | apply c4 | apply S_callQ (f := 24) | apply c5 | apply c8 | exact viewL_nil | apply viewL_cons | (apply View.pure; exact PureC.out) | exact FlatC.out | exact PureLC.out | exact gt_any rfl | exact gts_nil | (apply gts_cons; (· exact gt_any rfl)) | exact okCells_of rfl rfl | exact rfl | fail)
      all_goals exact congrArg AV.bool hle
    · have p1 : (!decide (evFault e = 0)) = true := by rw [decide_eq_false p0]; rfl
      have p2 : decide (evFault e = evFault e) = true := decide_eq_true rfl
      generalize evFault e = fe at *
      generalize evOut e = oe at *
      obtain ⟨k, n, a, s⟩ := e
      obtain ⟨k', n', a', s'⟩ := E
      repeat' (first | refine T_seq ?_ | refine N_then ?_ | refine N_thenR ?_ | refine T_regX tyOk ?_ | (apply T_drawAll tyOk mixed; (· kernel_rfl)) | refine S_nil ?_ | refine T_skip ?_ | refine T_ret ?_ | (apply E_tmp; (· exact rfl); (· (repeat' (first | exact pure_int _ _ | exact pure_bool _ | exact pure_str _); done))) | (apply T_ifT; (· exact rfl); (· (first | assumption | exact rfl))) | (apply T_ifF; (· exact rfl); (· (first | assumption | exact rfl))) | (apply S_gt; (· exact rfl); (· exact rfl); (· (first | assumption | exact rfl))) | (apply S_gf; (· exact rfl); (· exact rfl); (· (first | assumption | exact rfl))) | (apply S_gtF'; (· exact rfl); (· exact rfl); (· exact rfl); (· (first | assumption | exact rfl))) | apply S_move | apply S_assign | (apply S_pickT; (· exact gt_any rfl); (· (first | assumption | exact rfl))) | (apply S_pickF; (· exact gt_any rfl); (· (first | assumption | exact rfl))) | (apply S_loadP; (· exact rfl); (· exact gt_any rfl); (· exact rfl); (· exact rfl); (· exact rfl); (· (first | exact ⟨rfl, rfl⟩ | exact ⟨rfl, trivial⟩ | assumption))) | (apply S_loadW; (· exact rfl); (· exact gt_any rfl); (· exact rfl); (· exact rfl); (· exact rfl); (· exact rfl); (· exact rfl); (· exact rfl)) | (apply M_loadA; (· exact rfl); (· exact rfl); (· exact gt_any rfl); (· exact rfl); (· exact rfl); (· (repeat' constructor))) | (apply M_field1; (· exact rfl); (· exact rfl); (· exact rfl); (· exact gt_any rfl); (· exact rfl); (· (first | exact ⟨rfl, rfl⟩ | exact ⟨rfl, trivial⟩ | assumption))) | (apply S_fieldP; (· exact rfl); (· exact rfl); (· exact rfl); (· exact rfl); (· exact gt_any rfl)) | (apply S_eql; (· exact gt_any rfl); (· exact gt_any rfl)) | (apply S_neq; (· exact gt_any rfl); (· exact gt_any rfl)) | apply S_not | apply S_alloc | (apply S_store1; (· exact rfl); (· exact gt_any rfl); (· exact rfl); (· exact rfl); (· exact rfl); (· exact rfl)) | apply S_callQ (f := 21) | apply hbig | apply S_call (f := 22) | apply c0 | apply S_call (f := 12) | apply c1 | apply S_call (f := 23) | apply c2 | apply S_call (f := 18) | apply c3 | apply c4 | apply S_callQ (f := 24) | apply c5 | apply S_callQ (f := 8) | apply c7 | exact viewL_nil | apply viewL_cons | (apply View.pure; exact PureC.out) | exact FlatC.out | exact PureLC.out | exact gt_any rfl | exact gts_nil | (apply gts_cons; (· exact gt_any rfl)) | exact okCells_of rfl rfl | exact rfl | fail)
      all_goals first | rw [p2] | skip
  · have u1 : decide (uc = 0) = false := decide_eq_false u0
    have u2 : (!decide (uc = 0)) = true := by rw [u1]; rfl
    have u3 : (!decide (uc = uc)) = false := by rw [decide_eq_true rfl]; rfl
    clear hok
    by_cases p0 : evFault e = 0
    · rw [hz p0] at c8
      rw [p0] at c1
      dsimp only at c8
      have d0 : (!decide ((0 : Int) = 0)) = false := rfl
      obtain ⟨k, n, a, s⟩ := e
      obtain ⟨k', n', a', s'⟩ := E
      have hcs : cellsEq [.int .i64 k, .int .i64 n, .int .i64 a, .str s] [.int .i64 k, .int .i64 n, .int .i64 a, .str s] = true := by simp [cellsEq]
      repeat' (first | refine T_seq ?_ | refine N_then ?_ | refine T_regX tyOk ?_ | (apply T_drawAll tyOk mixed; (· kernel_rfl)) | refine S_nil ?_ | refine T_skip ?_ | refine T_ret ?_ | (apply E_tmp; (· exact rfl); (· (repeat' (first | exact pure_int _ _ | exact pure_bool _ | exact pure_str _); done))) | (apply S_eqAgg [.int .i64, .int .i64, .int .i64, .str]; (· exact gt_any rfl); (· exact gt_any rfl); (· (kernel_rfl)); (· exact rfl); (· exact rfl); (· (first | assumption | exact rfl)); (· exact rfl)) | (apply T_ifF; (· exact rfl); (· (first | assumption | exact rfl))) | (apply S_gt; (· exact rfl); (· exact rfl); (· (first | assumption | exact rfl))) | (apply S_gf; (· exact rfl); (· exact rfl); (· (first | assumption | exact rfl))) | (apply S_gtF'; (· exact rfl); (· exact rfl); (· exact rfl); (· (first | assumption | exact rfl))) | apply S_move | apply S_assign | (apply S_pickT; (· exact gt_any rfl); (· (first | assumption | exact rfl))) | (apply S_pickF; (· exact gt_any rfl); (· (first | assumption | exact rfl))) | (apply S_loadP; (· exact rfl); (· exact gt_any rfl); (· exact rfl); (· exact rfl); (· exact rfl); (· (first | exact ⟨rfl, rfl⟩ | exact ⟨rfl, trivial⟩ | assumption))) | (apply S_loadW; (· exact rfl); (· exact gt_any rfl); (· exact rfl); (· exact rfl); (· exact rfl); (· exact rfl); (· exact rfl); (· exact rfl)) | (apply M_loadA; (· exact rfl); (· exact rfl); (· exact gt_any rfl); (· exact rfl); (· exact rfl); (· (repeat' constructor))) | (apply M_field1; (· exact rfl); (· exact rfl); (· exact rfl); (· exact gt_any rfl); (· exact rfl); (· (first | exact ⟨rfl, rfl⟩ | exact ⟨rfl, trivial⟩ | assumption))) | (apply S_fieldP; (· exact rfl); (· exact rfl); (· exact rfl); (· exact rfl); (· exact gt_any rfl)) | apply S_leq | (apply S_eql; (· exact gt_any rfl); (· exact gt_any rfl)) | (apply S_neq; (· exact gt_any rfl); (· exact gt_any rfl)) | (apply S_len_ls; (· exact rfl); (· exact gt_any rfl)) | apply S_alloc | (apply S_store1; (· exact rfl); (· exact gt_any rfl); (· exact rfl); (· exact rfl); (· exact rfl); (· exact rfl)) | apply S_callQ (f := 21) | apply hbig | apply S_call (f := 22) | apply c0 | apply S_call (f := 12) | apply c1 | apply S_call (f := 23) | apply c2 | apply S_call (f := 18) | apply c3 | apply S_call (f := 16) | apply c6 | apply c8 | exact viewL_nil | apply viewL_cons | (apply View.pure; exact PureC.out) | exact FlatC.out | exact PureLC.out | exact gt_any rfl | exact gts_nil | (apply gts_cons; (· exact gt_any rfl)) | exact okCells_of rfl rfl | exact rfl | fail)
      all_goals exact congrArg AV.bool hle
    · have p1 : (!decide (evFault e = 0)) = true := by rw [decide_eq_false p0]; rfl
      have p2 : decide (evFault e = evFault e) = true := decide_eq_true rfl
      generalize evFault e = fe at *
      generalize evOut e = oe at *
      obtain ⟨k, n, a, s⟩ := e
      obtain ⟨k', n', a', s'⟩ := E
      repeat' (first | refine T_seq ?_ | refine N_then ?_ | refine N_thenR ?_ | refine T_regX tyOk ?_ | (apply T_drawAll tyOk mixed; (· kernel_rfl)) | refine S_nil ?_ | refine T_skip ?_ | refine T_ret ?_ | (apply E_tmp; (· exact rfl); (· (repeat' (first | exact pure_int _ _ | exact pure_bool _ | exact pure_str _); done))) | (apply T_ifT; (· exact rfl); (· (first | assumption | exact rfl))) | (apply T_ifF; (· exact rfl); (· (first | assumption | exact rfl))) | (apply S_gt; (· exact rfl); (· exact rfl); (· (first | assumption | exact rfl))) | (apply S_gf; (· exact rfl); (· exact rfl); (· (first | assumption | exact rfl))) | (apply S_gtF'; (· exact rfl); (· exact rfl); (· exact rfl); (· (first | assumption | exact rfl))) | apply S_move | apply S_assign | (apply S_pickT; (· exact gt_any rfl); (· (first | assumption | exact rfl))) | (apply S_pickF; (· exact gt_any rfl); (· (first | assumption | exact rfl))) | (apply S_loadP; (· exact rfl); (· exact gt_any rfl); (· exact rfl); (· exact rfl); (· exact rfl); (· (first | exact ⟨rfl, rfl⟩ | exact ⟨rfl, trivial⟩ | assumption))) | (apply S_loadW; (· exact rfl); (· exact gt_any rfl); (· exact rfl); (· exact rfl); (· exact rfl); (· exact rfl); (· exact rfl); (· exact rfl)) | (apply M_field1; (· exact rfl); (· exact rfl); (· exact rfl); (· exact gt_any rfl); (· exact rfl); (· (first | exact ⟨rfl, rfl⟩ | exact ⟨rfl, trivial⟩ | assumption))) | (apply S_fieldP; (· exact rfl); (· exact rfl); (· exact rfl); (· exact rfl); (· exact gt_any rfl)) | (apply S_eql; (· exact gt_any rfl); (· exact gt_any rfl)) | (apply S_neq; (· exact gt_any rfl); (· exact gt_any rfl)) | apply S_alloc | (apply S_store1; (· exact rfl); (· exact gt_any rfl); (· exact rfl); (· exact rfl); (· exact rfl); (· exact rfl)) | apply S_callQ (f := 21) | apply hbig | apply S_call (f := 22) | apply c0 | apply S_call (f := 12) | apply c1 | apply S_call (f := 23) | apply c2 | apply S_call (f := 18) | apply c3 | apply S_call (f := 16) | apply c6 | apply S_callQ (f := 8) | apply c7 | exact viewL_nil | apply viewL_cons | (apply View.pure; exact PureC.out) | exact FlatC.out | exact PureLC.out | exact gt_any rfl | exact gts_nil | (apply gts_cons; (· exact gt_any rfl)) | exact okCells_of rfl rfl | exact rfl | fail)
      all_goals first | rw [p2] | skip

end Go.Proofs.YtmaginepopldnaaDoor
