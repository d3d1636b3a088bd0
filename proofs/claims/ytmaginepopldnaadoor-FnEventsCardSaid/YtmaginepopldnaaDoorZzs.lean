/- Events packed and read back. -/
import Derived.Test.YtmaginepopldnaaDoorZzr
import Derived.Test.YtmaginepopldnaaDoorZzp
import Derived.Test.YtmaginepopldnaaDoorZh
import Derived.Test.YtmaginepopldnaaDoorYo
import Derived.Test.YtmaginepopldnaaDoorXn
import Derived.Test.YtmaginepopldnaaDoorWc
import Derived.Test.YtmaginepopldnaaDoorXh
import Derived.Test.YtmaginepopldnaaDoorGi
set_option maxRecDepth 100000
set_option maxHeartbeats 3200000
set_option linter.unusedSimpArgs false
set_option linter.unusedVariables false
namespace Go.Proofs.YtmaginepopldnaaDoor
open Go.Av

theorem packE_bound {ws : List (List UInt8)} {b : Nat} (h : ∀ w ∈ ws, w.length ≤ b) : (packL ws).length ≤ (b + 1) * ws.length := by
  induction ws with
  | nil => simp [packL]
  | cons w ws ih =>
    have h1 := h w List.mem_cons_self
    have h2 := ih fun x hx => h x (List.mem_cons_of_mem _ hx)
    have e : packL (w :: ws) = (byteN w.length :: w) ++ packL ws := rfl
    rw [e, List.length_append, List.length_cons, List.length_cons, Nat.mul_succ]
    omega

attribute [local irreducible] T thenQ blockQ againQ againS WX retV retR Gt Gts GtsP okCells CV CR Av.Pure

def evW (e : Evt) : List (List UInt8) := [[byteOf e.kind], putN e.nonce, putN e.amount, strB e.to]
def evP (e : Evt) : List UInt8 := packL (evW e)
theorem ev_zero {e : Evt} (h : evFault e = 0) : isKind e.kind = true ∧ (1 ≤ e.nonce ∧ e.nonce ≤ 1000000 ∧ 1 ≤ e.amount ∧ e.amount ≤ 1000000000) ∧ 1 ≤ (strB e.to).length ∧ (strB e.to).length ≤ 12 := by
  unfold evFault at h
  split at h
  · cases h
  split at h
  · cases h
  split at h
  · cases h
  rename_i a b c
  have c := Classical.not_not.1 c
  exact ⟨by simpa using a, Classical.not_not.1 b, c.1, c.2.1⟩
theorem evW_pack {e : Evt} (h : evFault e = 0) : (evW e).length = 4 ∧ (∀ w ∈ evW e, w.length ≤ 12) ∧ (evP e).length ≤ 52 := by
  obtain ⟨_, _, h1, h2⟩ := ev_zero h
  have hm : ∀ w ∈ evW e, w.length ≤ 12 := by
    intro w hw
    simp only [evW, List.mem_cons, List.not_mem_nil, or_false] at hw
    rcases hw with rfl | rfl | rfl | rfl
    · simp
    · rw [putN_length]; decide
    · rw [putN_length]; decide
    · exact h2
  have := packE_bound hm
  have h5 : (evW e).length = 4 := rfl
  rw [h5] at this
  exact ⟨rfl, hm, this⟩
abbrev evA3 (e : Evt) : AV := .ls 1 true false [.ls 1 true false [.int .u8 ((byteOf e.kind).toNat : Int)], byA (putN e.nonce), byA (putN e.amount), .ls 1 true false (listOf e.to)]
abbrev evA4 (e : Evt) : AV := .ls 1 false true [.ls 1 false true [.int .u8 ((byteOf e.kind).toNat : Int)], byA (putN e.nonce), byA (putN e.amount), .ls 1 false false (listOf e.to)]
attribute [local irreducible] putN packL

theorem packEvent_cr0 (e : Evt) (h : evFault e = 0) : CR Tryd.prog 32 [evtA e] [] 0 (Is (.sl 0 0 (evP e).length (evP e).length) [(0, some ⟨bA (evP e), 1, true, false⟩)] (0 + 1)) := by
  refine CR_introU tyOk Tryd.func32 (by kernel_rfl) rfl 18 rfl (by simp) [.tmp 2] rfl ?_
  intro w0 ok0 wr φ0
  obtain ⟨h1, h2, h3⟩ := evW_pack h
  have hw := wrap_byte e.kind
  have c0 := number_cv e.nonce
  have c1 := number_cv e.amount
  have c2 : ∀ N, CR Tryd.prog 53 [evA3 e] [] N (Is (.sl N 0 (evP e).length (evP e).length) [(N, some ⟨bA (evP e), 1, true, false⟩)] (N + 1)) := fun N => pack_cr (evW e) (by omega) (fun w hw => by have := h2 w hw; omega) (by show (evP e).length ≤ 4000; omega) N
  generalize evP e = P at *
  obtain ⟨k, n, a, s⟩ := e
  dsimp only at c0 c1 c2 hw
  repeat' (first | refine T_seq ?_ | refine N_then ?_ | refine T_regX tyOk ?_ | (apply T_drawM (id := 1) 13 tyOk mixed; (· exact rfl); (· exact rfl); (· kernel_rfl); (· exact Nat.le_of_ble_eq_true rfl)) | refine S_nil ?_ | refine T_ret ?_ | apply S_assign | (apply S_loadP; (· exact rfl); (· exact gt_any rfl); (· exact rfl); (· exact rfl); (· exact rfl); (· (first | exact ⟨rfl, rfl⟩ | exact ⟨rfl, trivial⟩ | assumption))) | (apply S_fieldP; (· exact rfl); (· exact rfl); (· exact rfl); (· exact rfl); (· exact gt_any rfl)) | (apply S_conv; (· exact rfl); (· exact rfl); (· exact gt_any rfl)) | (apply S_convSB; (· exact rfl); (· exact rfl); (· exact rfl); (· exact gt_any rfl)) | apply S_box | (apply S_buildV tyOk; (· exact rfl); (· exact rfl)) | apply S_call (f := 54) | apply c0 | apply c1 | apply S_callI (f := 53) | apply c2 | exact viewL_nil | apply viewL_cons | exact viewE_nil | apply viewE_one | exact viewE_pure PureEC.out | apply view_lsV | (apply View.pure; exact PureC.out) | exact OwnC.out | exact ownB_nil | (apply ownB_boxM; (· (apply mlen; first | exact rfl | assumption | exact Nat.le_of_ble_eq_true rfl | omega | (simp [bA_length]; done) | (simp [bA_length]; omega))); (· exact OwnEC.out)) | exact PureLC.out | exact gtsI_nil | (apply gtsI_cons; (· exact gt_any rfl)) | exact elts_nil | apply elts_cons | (intro hu; cases hu; done) | exact gt_any rfl | exact gts_nil | (apply gts_cons; (· exact gt_any rfl)) | exact okCells_of rfl rfl | assumption | exact Nat.le_of_ble_eq_true rfl | exact rfl | fail)
  (apply E_U0 [(0, 1)] <;> repeat' (first | exact resL_nil | (apply resL_tmp; (· exact rfl)) | (apply resL_cell; (· exact rfl); (· exact rfl); (· exact rfl); (· exact rfl); (· exact rfl); (· exact rfl)) | (apply resL_arr; (· exact rfl); (· exact rfl); (· exact rfl); (· exact rfl); (· (first | assumption | exact rfl))) | exact Ren.sl _ _ _ _ | (apply ren_slE; (· first | exact rfl | omega); (· first | exact rfl | assumption | (simp [bA_length]; done) | (simp [bA_length]; omega)); (· first | exact rfl | assumption | (simp [bA_length]; done) | (simp [bA_length]; omega))) | exact Ren.ptr _ _ _ | exact renL_nil | apply renL_cons | (apply Ren.pure; exact PureC.out) | apply ren_agg | apply ren_tup | exact Low.sl _ _ _ _ (by decide) | exact Low.ptr _ _ _ (by decide) | exact lowL_nil | apply lowL_cons | (apply Low.pure; exact PureC.out) | apply low_agg | apply low_tup | exact pullB_nil | (apply pullB_pureE; (· exact rfl); (· first | exact rfl | assumption | (simp [bA]; done)); (· exact PureEC.out)) | (apply pullB_one; (· exact rfl)) | exact lowBs_nil | apply lowBs_cons | (apply PureB.low; exact PureEC.out) | apply lowX_one | exact lowX_nil | exact rfl))

theorem packEvent_cr (e : Evt) (h : evFault e = 0) (N : Nat) : CR Tryd.prog 32 [evtA e] [] N (Is (.sl N 0 (evP e).length (evP e).length) [(N, some ⟨bA (evP e), 1, true, false⟩)] (N + 1)) :=
  CR.allN (packEvent_cr0 e h) N (by first | exact PureC.out | exact PureLC.out | assumption) (by repeat' (first | exact Ren.sl _ _ _ _ | exact Ren.ptr _ _ _ | exact renL_nil | apply renL_cons | (apply Ren.pure; (first | exact PureC.out | exact PureLC.out | assumption)) | apply ren_agg | apply ren_tup)) (by repeat' (first | exact renBs_nil | (apply renBs_pure; (· exact rfl); (· (exact PureEC.out))) | (apply renBs_one; (· exact rfl)) | exact renL_nil | apply renL_cons | exact Ren.sl _ _ _ _ | exact Ren.ptr _ _ _ | (apply Ren.pure; (first | exact PureC.out | exact PureLC.out | assumption)) | apply ren_agg))

def evOut (e : Evt) : List UInt8 := if evFault e = 0 then evP e else []
theorem implPackEvent_cr0 (e : Evt) : CR Tryd.prog 12 [evtA e] [] 0 (Is (.agg [.int .i64 (evFault e), .sl 0 0 (evOut e).length (evOut e).length]) [(0, some ⟨bA (evOut e), 1, true, false⟩)] (0 + 1)) := by
  refine CR_introU tyOk Tryd.func12 (by kernel_rfl) rfl 13 rfl (by simp) [.cell 2 31] rfl ?_
  intro w0 ok0 wr φ0
  have c0 := evtFault_cv e
  by_cases h : evFault e = 0
  · rw [show evOut e = evP e from if_pos h, h]
    rw [h] at c0
    have d0 : (!decide ((0 : Int) = 0)) = false := rfl
    have c1 := fun N => packEvent_cr e h N
    generalize evP e = P at *
    obtain ⟨k, n, a, s⟩ := e
    repeat' (first | refine T_seq ?_ | refine N_then ?_ | refine T_regX tyOk ?_ | refine S_nil ?_ | refine T_skip ?_ | refine T_ret ?_ | (apply T_ifF; (· exact rfl); (· (first | assumption | exact rfl))) | apply S_move | apply S_assign | (apply S_loadW; (· exact rfl); (· exact gt_any rfl); (· exact rfl); (· exact rfl); (· exact rfl); (· exact rfl); (· exact rfl); (· exact rfl)) | (apply S_neq; (· exact gt_any rfl); (· exact gt_any rfl)) | apply S_alloc | apply S_box | (apply S_store1; (· exact rfl); (· exact gt_any rfl); (· exact rfl); (· exact rfl); (· exact rfl); (· exact rfl)) | (apply S_build; (· exact rfl); (· exact rfl); (· exact rfl); (· (repeat' (first | exact gtsP_nil | exact gt_any rfl | apply gtsP_cons))); (· (repeat' (first | exact BuildR.nil _ | (apply BuildR.cons; (· exact rfl); (· exact rfl); (· exact rfl); (· exact rfl); (· (first | nofun | assumption)); (· (repeat' constructor))))))) | apply S_callQ (f := 10) | apply c0 | apply S_callI (f := 32) | apply c1 | exact viewL_nil | apply viewL_cons | (apply View.pure; exact PureC.out) | exact FlatC.out | exact OwnC.out | exact ownB_nil | (apply ownB_boxM; (· (apply mlen; first | exact rfl | assumption | exact Nat.le_of_ble_eq_true rfl | omega | (simp [bA_length]; done) | (simp [bA_length]; omega))); (· exact OwnEC.out)) | exact gt_any rfl | exact gts_nil | (apply gts_cons; (· exact gt_any rfl)) | exact okCells_of rfl rfl | exact rfl | fail)
    (apply E_U0 [(0, 2)] <;> repeat' (first | exact resL_nil | (apply resL_tmp; (· exact rfl)) | (apply resL_cell; (· exact rfl); (· exact rfl); (· exact rfl); (· exact rfl); (· exact rfl); (· exact rfl)) | (apply resL_arr; (· exact rfl); (· exact rfl); (· exact rfl); (· exact rfl); (· (first | assumption | exact rfl))) | exact Ren.sl _ _ _ _ | (apply ren_slE; (· first | exact rfl | omega); (· first | exact rfl | assumption | (simp [bA_length]; done) | (simp [bA_length]; omega)); (· first | exact rfl | assumption | (simp [bA_length]; done) | (simp [bA_length]; omega))) | exact Ren.ptr _ _ _ | exact renL_nil | apply renL_cons | (apply Ren.pure; exact PureC.out) | apply ren_agg | apply ren_tup | exact Low.sl _ _ _ _ (by decide) | exact Low.ptr _ _ _ (by decide) | exact lowL_nil | apply lowL_cons | (apply Low.pure; exact PureC.out) | apply low_agg | apply low_tup | exact pullB_nil | (apply pullB_pureE; (· exact rfl); (· first | exact rfl | assumption | (simp [bA]; done)); (· exact PureEC.out)) | (apply pullB_one; (· exact rfl)) | exact lowBs_nil | apply lowBs_cons | (apply PureB.low; exact PureEC.out) | apply lowX_one | exact lowX_nil | exact rfl))
  · rw [show evOut e = [] from if_neg h]
    have d0 : (!decide (evFault e = 0)) = true := by rw [decide_eq_false h]; rfl
    generalize evFault e = c at *
    obtain ⟨k, n, a, s⟩ := e
    repeat' (first | refine T_seq ?_ | refine N_then ?_ | refine N_thenR ?_ | refine T_regX tyOk ?_ | refine S_nil ?_ | refine T_ret ?_ | (apply T_ifT; (· exact rfl); (· (first | assumption | exact rfl))) | apply S_move | apply S_assign | (apply S_loadW; (· exact rfl); (· exact gt_any rfl); (· exact rfl); (· exact rfl); (· exact rfl); (· exact rfl); (· exact rfl); (· exact rfl)) | (apply S_neq; (· exact gt_any rfl); (· exact gt_any rfl)) | apply S_alloc | apply S_box | (apply S_store1; (· exact rfl); (· exact gt_any rfl); (· exact rfl); (· exact rfl); (· exact rfl); (· exact rfl)) | (apply S_build; (· exact rfl); (· exact rfl); (· exact rfl); (· (repeat' (first | exact gtsP_nil | exact gt_any rfl | apply gtsP_cons))); (· (repeat' (first | exact BuildR.nil _ | (apply BuildR.cons; (· exact rfl); (· exact rfl); (· exact rfl); (· exact rfl); (· (first | nofun | assumption)); (· (repeat' constructor))))))) | apply S_callQ (f := 10) | apply c0 | exact viewL_nil | apply viewL_cons | (apply View.pure; exact PureC.out) | exact FlatC.out | exact gt_any rfl | exact gts_nil | (apply gts_cons; (· exact gt_any rfl)) | exact okCells_of rfl rfl | exact rfl | fail)
    (apply E_U1 [(0, 2)] 1 <;> repeat' (first | exact resL_nil | (apply resL_tmp; (· exact rfl)) | (apply resL_cell; (· exact rfl); (· exact rfl); (· exact rfl); (· exact rfl); (· exact rfl); (· exact rfl)) | (apply resL_arr; (· exact rfl); (· exact rfl); (· exact rfl); (· exact rfl); (· (first | assumption | exact rfl))) | exact Ren.sl _ _ _ _ | (apply ren_slE; (· first | exact rfl | omega); (· first | exact rfl | assumption | (simp [bA_length]; done) | (simp [bA_length]; omega)); (· first | exact rfl | assumption | (simp [bA_length]; done) | (simp [bA_length]; omega))) | exact Ren.ptr _ _ _ | exact renL_nil | apply renL_cons | (apply Ren.pure; exact PureC.out) | apply ren_agg | apply ren_tup | exact Low.sl _ _ _ _ (by decide) | exact Low.ptr _ _ _ (by decide) | exact lowL_nil | apply lowL_cons | (apply Low.pure; exact PureC.out) | apply low_agg | apply low_tup | exact pullB_nil | (apply pullB_pureE; (· exact rfl); (· first | exact rfl | assumption | (simp [bA]; done)); (· exact PureEC.out)) | (apply pullB_one; (· exact rfl)) | exact lowBs_nil | apply lowBs_cons | (apply PureB.low; exact PureEC.out) | apply lowX_one | exact lowX_nil | exact rfl))

theorem implPackEvent_cr (e : Evt) (N : Nat) : CR Tryd.prog 12 [evtA e] [] N (Is (.agg [.int .i64 (evFault e), .sl N 0 (evOut e).length (evOut e).length]) [(N, some ⟨bA (evOut e), 1, true, false⟩)] (N + 1)) :=
  CR.allN (implPackEvent_cr0 e) N (by first | exact PureC.out | exact PureLC.out | assumption) (by repeat' (first | exact Ren.sl _ _ _ _ | exact Ren.ptr _ _ _ | exact renL_nil | apply renL_cons | (apply Ren.pure; (first | exact PureC.out | exact PureLC.out | assumption)) | apply ren_agg | apply ren_tup)) (by repeat' (first | exact renBs_nil | (apply renBs_pure; (· exact rfl); (· (exact PureEC.out))) | (apply renBs_one; (· exact rfl)) | exact renL_nil | apply renL_cons | exact Ren.sl _ _ _ _ | exact Ren.ptr _ _ _ | (apply Ren.pure; (first | exact PureC.out | exact PureLC.out | assumption)) | apply ren_agg))

theorem implPackEvent_cv (e : Evt) : CV Tryd.prog 12 [evtA e] (· = bytesRes (evFault e) (evOut e)) :=
  (implPackEvent_cr e 0).toCV fun r bs n ⟨e1, e2, e3⟩ => by subst e1 e2; exact view_agg ⟨.pure (pure_int _ _), view_slA rfl (bA_length _).symm (pureB_bA _), trivial⟩

theorem evOut_le (e : Evt) : (evOut e).length ≤ 52 := by
  unfold evOut
  split
  · rename_i h; exact (evW_pack h).2.2
  · simp

def evOf (b : UInt8) (w1 w2 w3 : List UInt8) : Evt := ⟨(b.toNat : Int), (numV w1 : Int), (numV w2 : Int), bStr w3⟩
def upE : List (List UInt8) → Int × Evt
  | [[b], w1, w2, w3] => if w1.length = 7 ∧ w2.length = 7 ∧ evFault (evOf b w1 w2 w3) = 0 then (0, evOf b w1 w2 w3) else (5, e0)
  | _ => (5, e0)
def upEv (d : List UInt8) : Int × Evt := upE (upL d).2.2
abbrev evRes (c : Int) (e : Evt) : AV := .agg [.int .i64 c, .int .i64 e.kind, .int .i64 e.nonce, .int .i64 e.amount, .str e.to]
theorem upE_len {ws : List (List UInt8)} (h : ws.length ≠ 4) : upE ws = (5, e0) := by
  unfold upE
  split
  · exact absurd rfl h
  · rfl
theorem upE_first {w0 w1 w2 w3 : List UInt8} (h : w0.length ≠ 1) : upE [w0, w1, w2, w3] = (5, e0) := by
  unfold upE
  split
  · rename_i heq; simp at heq; rw [heq.1] at h; exact absurd rfl h
  · rfl
theorem upGo_codes (d : List UInt8) : ∀ (f : Nat) (ws : List (List UInt8)) (a : Nat), (upGo d f ws a).1 ≠ 0 → (upGo d f ws a).2.2 = []
  | 0, ws, a, h => absurd rfl h
  | f + 1, ws, a, h => by
    rw [upGo] at h ⊢
    split at h
    · rename_i h1
      rw [if_pos h1]
      split at h
      · rename_i h2; rw [if_pos h2]
      · rename_i h2
        rw [if_neg h2]
        split at h
        · rename_i h3; rw [if_pos h3]
        · rename_i h3
          rw [if_neg h3]
          split at h
          · rename_i h4; rw [if_pos h4]
          · rename_i h4
            rw [if_neg h4]
            exact upGo_codes d f _ _ h
    · exact absurd rfl h
theorem upL_codes {d : List UInt8} (h : (upL d).1 ≠ 0) : (upL d).2.2 = [] := by
  unfold upL at h ⊢
  split at h
  · rename_i h1; rw [if_pos h1]
  · rename_i h1; rw [if_neg h1]; exact upGo_codes d _ _ _ h

theorem implUnpackEvent_cv (d : List UInt8) (hd : d.length ≤ 1073741824) : CV Tryd.prog 18 [sl1 (bA d)] (· = evRes (upEv d).1 (upEv d).2) := by
  refine CV_intro tyOk Tryd.func18 (by kernel_rfl) rfl 60 rfl (by simp) [.cell 2 36] rfl ?_
  intro w0 ok0
  have c0 := implUnpackWords_cv d hd
  have hE : upEv d = upE (upL d).2.2 := rfl
  rw [hE]
  clear hE
  generalize (upL d).1 = c at *
  generalize (upL d).2.1 = t at *
  generalize (upL d).2.2 = ws at *
  by_cases h4 : ws.length = 4
  case neg =>
    have d0 : (!decide (((ws.map byA).length : Int) = 4)) = true := by rw [List.length_map, decide_eq_false (by omega)]; rfl
    rw [upE_len h4]
    repeat' (first | refine T_seq ?_ | refine N_then ?_ | refine N_thenR ?_ | refine T_regX tyOk ?_ | refine S_nil ?_ | refine T_ret ?_ | (apply E_X <;> repeat' (first | exact resL_nil | (apply resL_tmp; (· exact rfl)) | (apply resL_cell; (· exact rfl); (· exact rfl); (· exact rfl); (· exact rfl); (· exact rfl); (· exact rfl)) | (apply resL_arr; (· exact rfl); (· exact rfl); (· exact rfl); (· exact rfl); (· (first | assumption | exact rfl))) | exact viewL_nil | apply viewL_cons | apply view_nothingE | (apply view_slE; (· exact rfl); (· first | exact rfl | assumption | (simp [bA_length]; done) | (simp [bA_length]; omega) | omega); (· exact PureEC.out)) | (apply view_loose; (· exact PureEC.out)) | apply view_agg | apply view_tup | (apply View.ofEq; (· exact PureC.out)) | exact rfl)) | (apply T_ifT; (· exact rfl); (· (first | assumption | exact rfl))) | (apply S_gfT'; (· exact rfl); (· exact rfl); (· exact rfl); (· (first | assumption | exact rfl))) | apply S_move | apply S_assign | (apply S_pickT; (· exact gt_any rfl); (· (first | assumption | exact rfl))) | (apply M_field1; (· exact rfl); (· exact rfl); (· exact rfl); (· exact gt_any rfl); (· exact rfl); (· (first | exact ⟨rfl, rfl⟩ | exact ⟨rfl, trivial⟩ | assumption))) | (apply S_neq; (· exact gt_any rfl); (· exact gt_any rfl)) | (apply S_len_ls; (· exact rfl); (· exact gt_any rfl)) | apply S_alloc | (apply S_store1; (· exact rfl); (· exact gt_any rfl); (· exact rfl); (· exact rfl); (· exact rfl); (· exact rfl)) | (apply S_build; (· exact rfl); (· exact rfl); (· exact rfl); (· (repeat' (first | exact gtsP_nil | exact gt_any rfl | apply gtsP_cons))); (· (repeat' (first | exact BuildR.nil _ | (apply BuildR.cons; (· exact rfl); (· exact rfl); (· exact rfl); (· exact rfl); (· (first | nofun | assumption)); (· (repeat' constructor))))))) | apply S_call (f := 37) | apply c0 | exact PureLC.out | exact gt_any rfl | exact gts_nil | (apply gts_cons; (· exact gt_any rfl)) | exact okCells_of rfl rfl | exact rfl | fail)
  match ws, h4 with
  | [w0, w1, w2, w3], _ =>
  have d0 : (!decide ((4 : Int) = 4)) = false := rfl
  have i0 : (0 : Int) ≤ 0 ∧ (0 : Int) < ((List.map byA [w0, w1, w2, w3]).length : Int) := ⟨by decide, by simp⟩
  have i1 : (0 : Int) ≤ 1 ∧ (1 : Int) < ((List.map byA [w0, w1, w2, w3]).length : Int) := ⟨by decide, by simp⟩
  have i2 : (0 : Int) ≤ 2 ∧ (2 : Int) < ((List.map byA [w0, w1, w2, w3]).length : Int) := ⟨by decide, by simp⟩
  have i3 : (0 : Int) ≤ 3 ∧ (3 : Int) < ((List.map byA [w0, w1, w2, w3]).length : Int) := ⟨by decide, by simp⟩
  by_cases h0 : w0.length = 1
  case neg =>
    have d1 : (!decide (((bA w0).length : Int) = 1)) = true := by rw [bA_length, decide_eq_false (by omega)]; rfl
    rw [upE_first h0]
    repeat' (first | refine T_seq ?_ | refine N_then ?_ | refine N_thenR ?_ | refine T_regX tyOk ?_ | refine S_nil ?_ | refine T_ret ?_ | (apply E_X <;> repeat' (first | exact resL_nil | (apply resL_tmp; (· exact rfl)) | (apply resL_cell; (· exact rfl); (· exact rfl); (· exact rfl); (· exact rfl); (· exact rfl); (· exact rfl)) | (apply resL_arr; (· exact rfl); (· exact rfl); (· exact rfl); (· exact rfl); (· (first | assumption | exact rfl))) | exact viewL_nil | apply viewL_cons | apply view_nothingE | (apply view_slE; (· exact rfl); (· first | exact rfl | assumption | (simp [bA_length]; done) | (simp [bA_length]; omega) | omega); (· exact PureEC.out)) | (apply view_loose; (· exact PureEC.out)) | apply view_agg | apply view_tup | (apply View.ofEq; (· exact PureC.out)) | exact rfl)) | (apply T_ifT; (· exact rfl); (· (first | assumption | exact rfl))) | (apply S_gf; (· exact rfl); (· exact rfl); (· (first | assumption | exact rfl))) | (apply S_gfT'; (· exact rfl); (· exact rfl); (· exact rfl); (· (first | assumption | exact rfl))) | apply S_move | apply S_assign | (apply S_pickT; (· exact gt_any rfl); (· (first | assumption | exact rfl))) | (apply S_pickF; (· exact gt_any rfl); (· (first | assumption | exact rfl))) | (apply S_loadV; (· exact rfl); (· exact gt_any rfl); (· exact rfl); (· (first | exact ⟨rfl, rfl⟩ | exact ⟨rfl, trivial⟩ | assumption))) | (apply M_field1; (· exact rfl); (· exact rfl); (· exact rfl); (· exact gt_any rfl); (· exact rfl); (· (first | exact ⟨rfl, rfl⟩ | exact ⟨rfl, trivial⟩ | assumption))) | (apply S_neq; (· exact gt_any rfl); (· exact gt_any rfl)) | (apply S_len_ls; (· exact rfl); (· exact gt_any rfl)) | apply S_alloc | (apply S_store1; (· exact rfl); (· exact gt_any rfl); (· exact rfl); (· exact rfl); (· exact rfl); (· exact rfl)) | (apply S_build; (· exact rfl); (· exact rfl); (· exact rfl); (· (repeat' (first | exact gtsP_nil | exact gt_any rfl | apply gtsP_cons))); (· (repeat' (first | exact BuildR.nil _ | (apply BuildR.cons; (· exact rfl); (· exact rfl); (· exact rfl); (· exact rfl); (· (first | nofun | assumption)); (· (repeat' constructor))))))) | (apply S_idxLs; (· exact rfl); (· exact rfl); (· exact gt_any rfl); (· exact gt_any rfl)) | apply S_call (f := 37) | apply c0 | exact PureLC.out | exact gt_any rfl | exact gts_nil | (apply gts_cons; (· exact gt_any rfl)) | exact okCells_of rfl rfl | assumption | exact rfl | fail)
  match w0, h0 with
  | [b], _ =>
  have d1 : (!decide ((1 : Int) = 1)) = false := rfl
  clear i0 i1 i2 i3
  have i0 : (0 : Int) ≤ 0 ∧ (0 : Int) < ((List.map byA [[b], w1, w2, w3]).length : Int) := ⟨by decide, by simp⟩
  have i1 : (0 : Int) ≤ 1 ∧ (1 : Int) < ((List.map byA [[b], w1, w2, w3]).length : Int) := ⟨by decide, by simp⟩
  have i2 : (0 : Int) ≤ 2 ∧ (2 : Int) < ((List.map byA [[b], w1, w2, w3]).length : Int) := ⟨by decide, by simp⟩
  have i3 : (0 : Int) ≤ 3 ∧ (3 : Int) < ((List.map byA [[b], w1, w2, w3]).length : Int) := ⟨by decide, by simp⟩
  have ib : (0 : Int) ≤ 0 ∧ (0 : Int) < ((bA [b]).length : Int) := ⟨by decide, by simp [bA]⟩
  have g0 : (List.map byA [[b], w1, w2, w3]).getD (Int.toNat 0) AV.undef = byA [b] := rfl
  have g1 : (List.map byA [[b], w1, w2, w3]).getD (Int.toNat 1) AV.undef = byA w1 := rfl
  have g2 : (List.map byA [[b], w1, w2, w3]).getD (Int.toNat 2) AV.undef = byA w2 := rfl
  have g3 : (List.map byA [[b], w1, w2, w3]).getD (Int.toNat 3) AV.undef = byA w3 := rfl
  have hU : upE [[b], w1, w2, w3] = if w1.length = 7 ∧ w2.length = 7 ∧ evFault (evOf b w1 w2 w3) = 0 then (0, evOf b w1 w2 w3) else (5, e0) := rfl
  rw [hU]
  clear hU
  by_cases h1 : w1.length = 7
  case neg =>
    have d2 : (!decide (((bA w1).length : Int) = 7)) = true := by rw [bA_length, decide_eq_false (by omega)]; rfl
    rw [if_neg (fun h => h1 h.1)]
    repeat' (first | refine T_seq ?_ | refine N_then ?_ | refine N_thenR ?_ | refine T_regX tyOk ?_ | refine S_nil ?_ | refine T_ret ?_ | (apply E_X <;> repeat' (first | exact resL_nil | (apply resL_tmp; (· exact rfl)) | (apply resL_cell; (· exact rfl); (· exact rfl); (· exact rfl); (· exact rfl); (· exact rfl); (· exact rfl)) | (apply resL_arr; (· exact rfl); (· exact rfl); (· exact rfl); (· exact rfl); (· (first | assumption | exact rfl))) | exact viewL_nil | apply viewL_cons | apply view_nothingE | (apply view_slE; (· exact rfl); (· first | exact rfl | assumption | (simp [bA_length]; done) | (simp [bA_length]; omega) | omega); (· exact PureEC.out)) | (apply view_loose; (· exact PureEC.out)) | apply view_agg | apply view_tup | (apply View.ofEq; (· exact PureC.out)) | exact rfl)) | (apply T_ifT; (· exact rfl); (· (first | assumption | exact rfl))) | (apply S_gf; (· exact rfl); (· exact rfl); (· (first | assumption | exact rfl))) | (apply S_gfT'; (· exact rfl); (· exact rfl); (· exact rfl); (· (first | assumption | exact rfl))) | apply S_move | apply S_assign | (apply S_pickT; (· exact gt_any rfl); (· (first | assumption | exact rfl))) | (apply S_pickF; (· exact gt_any rfl); (· (first | assumption | exact rfl))) | (apply S_loadV; (· exact rfl); (· exact gt_any rfl); (· exact rfl); (· (first | exact ⟨rfl, rfl⟩ | exact ⟨rfl, trivial⟩ | assumption))) | (apply M_field1; (· exact rfl); (· exact rfl); (· exact rfl); (· exact gt_any rfl); (· exact rfl); (· (first | exact ⟨rfl, rfl⟩ | exact ⟨rfl, trivial⟩ | assumption))) | (apply S_neq; (· exact gt_any rfl); (· exact gt_any rfl)) | (apply S_len_ls; (· exact rfl); (· exact gt_any rfl)) | apply S_alloc | (apply S_store1; (· exact rfl); (· exact gt_any rfl); (· exact rfl); (· exact rfl); (· exact rfl); (· exact rfl)) | (apply S_build; (· exact rfl); (· exact rfl); (· exact rfl); (· (repeat' (first | exact gtsP_nil | exact gt_any rfl | apply gtsP_cons))); (· (repeat' (first | exact BuildR.nil _ | (apply BuildR.cons; (· exact rfl); (· exact rfl); (· exact rfl); (· exact rfl); (· (first | nofun | assumption)); (· (repeat' constructor))))))) | (apply S_idxLs; (· exact rfl); (· exact rfl); (· exact gt_any rfl); (· exact gt_any rfl)) | apply S_call (f := 37) | apply c0 | exact PureLC.out | exact gt_any rfl | exact gts_nil | (apply gts_cons; (· exact gt_any rfl)) | exact okCells_of rfl rfl | assumption | exact rfl | fail)
  have d2 : (!decide (((bA w1).length : Int) = 7)) = false := by rw [bA_length, decide_eq_true (by omega)]; rfl
  by_cases h2 : w2.length = 7
  case neg =>
    have d3 : (!decide (((bA w2).length : Int) = 7)) = true := by rw [bA_length, decide_eq_false (by omega)]; rfl
    rw [if_neg (fun h => h2 h.2.1)]
    repeat' (first | refine T_seq ?_ | refine N_then ?_ | refine N_thenR ?_ | refine T_regX tyOk ?_ | refine S_nil ?_ | refine T_ret ?_ | (apply E_X <;> repeat' (first | exact resL_nil | (apply resL_tmp; (· exact rfl)) | (apply resL_cell; (· exact rfl); (· exact rfl); (· exact rfl); (· exact rfl); (· exact rfl); (· exact rfl)) | (apply resL_arr; (· exact rfl); (· exact rfl); (· exact rfl); (· exact rfl); (· (first | assumption | exact rfl))) | exact viewL_nil | apply viewL_cons | apply view_nothingE | (apply view_slE; (· exact rfl); (· first | exact rfl | assumption | (simp [bA_length]; done) | (simp [bA_length]; omega) | omega); (· exact PureEC.out)) | (apply view_loose; (· exact PureEC.out)) | apply view_agg | apply view_tup | (apply View.ofEq; (· exact PureC.out)) | exact rfl)) | (apply T_ifT; (· exact rfl); (· (first | assumption | exact rfl))) | (apply S_gf; (· exact rfl); (· exact rfl); (· (first | assumption | exact rfl))) | apply S_move | apply S_assign | (apply S_pickF; (· exact gt_any rfl); (· (first | assumption | exact rfl))) | (apply S_loadV; (· exact rfl); (· exact gt_any rfl); (· exact rfl); (· (first | exact ⟨rfl, rfl⟩ | exact ⟨rfl, trivial⟩ | assumption))) | (apply M_field1; (· exact rfl); (· exact rfl); (· exact rfl); (· exact gt_any rfl); (· exact rfl); (· (first | exact ⟨rfl, rfl⟩ | exact ⟨rfl, trivial⟩ | assumption))) | (apply S_neq; (· exact gt_any rfl); (· exact gt_any rfl)) | (apply S_len_ls; (· exact rfl); (· exact gt_any rfl)) | apply S_alloc | (apply S_store1; (· exact rfl); (· exact gt_any rfl); (· exact rfl); (· exact rfl); (· exact rfl); (· exact rfl)) | (apply S_build; (· exact rfl); (· exact rfl); (· exact rfl); (· (repeat' (first | exact gtsP_nil | exact gt_any rfl | apply gtsP_cons))); (· (repeat' (first | exact BuildR.nil _ | (apply BuildR.cons; (· exact rfl); (· exact rfl); (· exact rfl); (· exact rfl); (· (first | nofun | assumption)); (· (repeat' constructor))))))) | (apply S_idxLs; (· exact rfl); (· exact rfl); (· exact gt_any rfl); (· exact gt_any rfl)) | apply S_call (f := 37) | apply c0 | exact PureLC.out | exact gt_any rfl | exact gts_nil | (apply gts_cons; (· exact gt_any rfl)) | exact okCells_of rfl rfl | assumption | exact rfl | fail)
  have d3 : (!decide (((bA w2).length : Int) = 7)) = false := by rw [bA_length, decide_eq_true (by omega)]; rfl
  have c1 := numberOf_cv w1 h1
  have c2 := numberOf_cv w2 h2
  have c3 := evtFault_cv (evOf b w1 w2 w3)
  have wb : IntKind.wrap .i64 (b.toNat : Int) = (b.toNat : Int) := by have := UInt8.toNat_lt b; exact wrap_i64 (by omega) (by omega)
  have hev : evOf b w1 w2 w3 = ⟨(b.toNat : Int), (numV w1 : Int), (numV w2 : Int), bStr w3⟩ := rfl
  rw [hev] at c3
  by_cases h3 : evFault (evOf b w1 w2 w3) = 0
  · rw [if_pos ⟨h1, h2, h3⟩, hev]
    rw [hev] at h3
    rw [h3] at c3
    have d4 : (!decide ((0 : Int) = 0)) = false := rfl
    repeat' (first | refine T_seq ?_ | refine N_then ?_ | refine T_regX tyOk ?_ | (apply T_drawQ (id := 4) 22 [21] tyOk mixed; (· exact rfl); (· exact rfl); (· exact rfl); (· kernel_rfl); (· kernel_rfl); (· exact Nat.le_of_ble_eq_true rfl)) | refine S_nil ?_ | refine T_skip ?_ | refine T_ret ?_ | (apply E_X <;> repeat' (first | exact resL_nil | (apply resL_tmp; (· exact rfl)) | (apply resL_cell; (· exact rfl); (· exact rfl); (· exact rfl); (· exact rfl); (· exact rfl); (· exact rfl)) | (apply resL_arr; (· exact rfl); (· exact rfl); (· exact rfl); (· exact rfl); (· (first | assumption | exact rfl))) | exact viewL_nil | apply viewL_cons | apply view_nothingE | (apply view_slE; (· exact rfl); (· first | exact rfl | assumption | (simp [bA_length]; done) | (simp [bA_length]; omega) | omega); (· exact PureEC.out)) | (apply view_loose; (· exact PureEC.out)) | apply view_agg | apply view_tup | (apply View.ofEq; (· exact PureC.out)) | exact rfl)) | (apply T_ifF; (· exact rfl); (· (first | assumption | exact rfl))) | (apply S_gf; (· exact rfl); (· exact rfl); (· (first | assumption | exact rfl))) | apply S_move | apply S_assign | (apply S_pickF; (· exact gt_any rfl); (· (first | assumption | exact rfl))) | (apply S_loadW; (· exact rfl); (· exact gt_any rfl); (· exact rfl); (· exact rfl); (· exact rfl); (· exact rfl); (· exact rfl); (· exact rfl)) | (apply S_loadV; (· exact rfl); (· exact gt_any rfl); (· exact rfl); (· (first | exact ⟨rfl, rfl⟩ | exact ⟨rfl, trivial⟩ | assumption))) | (apply M_field1; (· exact rfl); (· exact rfl); (· exact rfl); (· exact gt_any rfl); (· exact rfl); (· (first | exact ⟨rfl, rfl⟩ | exact ⟨rfl, trivial⟩ | assumption))) | (apply S_neq; (· exact gt_any rfl); (· exact gt_any rfl)) | (apply S_conv; (· exact rfl); (· exact rfl); (· exact gt_any rfl)) | (apply M_convBS; (· exact rfl); (· exact rfl); (· exact rfl); (· exact gt_any rfl); (· exact rfl)) | (apply S_len_ls; (· exact rfl); (· exact gt_any rfl)) | apply S_alloc | (apply S_store1; (· exact rfl); (· exact gt_any rfl); (· exact rfl); (· exact rfl); (· exact rfl); (· exact rfl)) | (apply S_build; (· exact rfl); (· exact rfl); (· exact rfl); (· (repeat' (first | exact gtsP_nil | exact gt_any rfl | apply gtsP_cons))); (· (repeat' (first | exact BuildR.nil _ | (apply BuildR.cons; (· exact rfl); (· exact rfl); (· exact rfl); (· exact rfl); (· (first | nofun | assumption)); (· (repeat' constructor))))))) | (apply S_idxLs; (· exact rfl); (· exact rfl); (· exact gt_any rfl); (· exact gt_any rfl)) | (apply L_alloc tyOk; (· exact rfl); (· exact rfl); (· (first | exact okCells_of rfl rfl | assumption)); (· exact rfl); (· exact rfl)) | apply S_call (f := 37) | apply c0 | apply S_call (f := 38) | apply c1 | apply c2 | apply S_callQ (f := 10) | apply c3 | exact viewL_nil | apply viewL_cons | (apply View.pure; exact PureC.out) | exact FlatC.out | exact PureLC.out | exact gt_any rfl | exact gts_nil | (apply gts_cons; (· exact gt_any rfl)) | exact okCells_of rfl rfl | assumption | exact rfl | fail)
  · rw [if_neg (fun h => h3 h.2.2)]
    rw [hev] at h3
    have d4 : (!decide (evFault ⟨(b.toNat : Int), (numV w1 : Int), (numV w2 : Int), bStr w3⟩ = 0)) = true := by rw [decide_eq_false h3]; rfl
    generalize evFault ⟨(b.toNat : Int), (numV w1 : Int), (numV w2 : Int), bStr w3⟩ = ff at *
    repeat' (first | refine T_seq ?_ | refine N_then ?_ | refine N_thenR ?_ | refine T_regX tyOk ?_ | (apply T_drawQ (id := 4) 22 [21] tyOk mixed; (· exact rfl); (· exact rfl); (· exact rfl); (· kernel_rfl); (· kernel_rfl); (· exact Nat.le_of_ble_eq_true rfl)) | refine S_nil ?_ | refine T_skip ?_ | refine T_ret ?_ | (apply E_X <;> repeat' (first | exact resL_nil | (apply resL_tmp; (· exact rfl)) | (apply resL_cell; (· exact rfl); (· exact rfl); (· exact rfl); (· exact rfl); (· exact rfl); (· exact rfl)) | (apply resL_arr; (· exact rfl); (· exact rfl); (· exact rfl); (· exact rfl); (· (first | assumption | exact rfl))) | exact viewL_nil | apply viewL_cons | apply view_nothingE | (apply view_slE; (· exact rfl); (· first | exact rfl | assumption | (simp [bA_length]; done) | (simp [bA_length]; omega) | omega); (· exact PureEC.out)) | (apply view_loose; (· exact PureEC.out)) | apply view_agg | apply view_tup | (apply View.ofEq; (· exact PureC.out)) | exact rfl)) | (apply T_ifT; (· exact rfl); (· (first | assumption | exact rfl))) | (apply T_ifF; (· exact rfl); (· (first | assumption | exact rfl))) | (apply S_gf; (· exact rfl); (· exact rfl); (· (first | assumption | exact rfl))) | apply S_move | apply S_assign | (apply S_pickF; (· exact gt_any rfl); (· (first | assumption | exact rfl))) | (apply S_loadW; (· exact rfl); (· exact gt_any rfl); (· exact rfl); (· exact rfl); (· exact rfl); (· exact rfl); (· exact rfl); (· exact rfl)) | (apply S_loadV; (· exact rfl); (· exact gt_any rfl); (· exact rfl); (· (first | exact ⟨rfl, rfl⟩ | exact ⟨rfl, trivial⟩ | assumption))) | (apply M_field1; (· exact rfl); (· exact rfl); (· exact rfl); (· exact gt_any rfl); (· exact rfl); (· (first | exact ⟨rfl, rfl⟩ | exact ⟨rfl, trivial⟩ | assumption))) | (apply S_neq; (· exact gt_any rfl); (· exact gt_any rfl)) | (apply S_conv; (· exact rfl); (· exact rfl); (· exact gt_any rfl)) | (apply M_convBS; (· exact rfl); (· exact rfl); (· exact rfl); (· exact gt_any rfl); (· exact rfl)) | (apply S_len_ls; (· exact rfl); (· exact gt_any rfl)) | apply S_alloc | (apply S_store1; (· exact rfl); (· exact gt_any rfl); (· exact rfl); (· exact rfl); (· exact rfl); (· exact rfl)) | (apply S_build; (· exact rfl); (· exact rfl); (· exact rfl); (· (repeat' (first | exact gtsP_nil | exact gt_any rfl | apply gtsP_cons))); (· (repeat' (first | exact BuildR.nil _ | (apply BuildR.cons; (· exact rfl); (· exact rfl); (· exact rfl); (· exact rfl); (· (first | nofun | assumption)); (· (repeat' constructor))))))) | (apply S_idxLs; (· exact rfl); (· exact rfl); (· exact gt_any rfl); (· exact gt_any rfl)) | (apply L_alloc tyOk; (· exact rfl); (· exact rfl); (· (first | exact okCells_of rfl rfl | assumption)); (· exact rfl); (· exact rfl)) | apply S_call (f := 37) | apply c0 | apply S_call (f := 38) | apply c1 | apply c2 | apply S_callQ (f := 10) | apply c3 | exact viewL_nil | apply viewL_cons | (apply View.pure; exact PureC.out) | exact FlatC.out | exact PureLC.out | exact gt_any rfl | exact gts_nil | (apply gts_cons; (· exact gt_any rfl)) | exact okCells_of rfl rfl | assumption | exact rfl | fail)

theorem specUnpackEvent_cv (d : List UInt8) (hd : d.length ≤ 1073741824) : CV Tryd.prog 16 [sl1 (bA d)] (· = evRes (upEv d).1 (upEv d).2) := by
  refine CV_intro tyOk Tryd.func16 (by kernel_rfl) rfl 65 rfl (by simp) [.cell 2 36] rfl ?_
  intro w0 ok0
  have c0 := specUnpackWords_cv d hd
  have hE : upEv d = upE (upL d).2.2 := rfl
  rw [hE]
  clear hE
  have hcd := upL_codes (d := d)
  generalize (upL d).1 = c at *
  generalize (upL d).2.1 = t at *
  generalize (upL d).2.2 = ws at *
  by_cases hc0 : c = 0
  case neg =>
    have dc : (!decide (c = 0)) = true := by rw [decide_eq_false hc0]; rfl
    rw [hcd hc0] at c0 ⊢
    rw [upE_len (by decide)]
    repeat' (first | refine T_seq ?_ | refine N_then ?_ | refine N_thenR ?_ | refine T_regX tyOk ?_ | refine S_nil ?_ | refine T_ret ?_ | (apply E_X <;> repeat' (first | exact resL_nil | (apply resL_tmp; (· exact rfl)) | (apply resL_cell; (· exact rfl); (· exact rfl); (· exact rfl); (· exact rfl); (· exact rfl); (· exact rfl)) | (apply resL_arr; (· exact rfl); (· exact rfl); (· exact rfl); (· exact rfl); (· (first | assumption | exact rfl))) | exact viewL_nil | apply viewL_cons | apply view_nothingE | (apply view_slE; (· exact rfl); (· first | exact rfl | assumption | (simp [bA_length]; done) | (simp [bA_length]; omega) | omega); (· exact PureEC.out)) | (apply view_loose; (· exact PureEC.out)) | apply view_agg | apply view_tup | (apply View.ofEq; (· exact PureC.out)) | exact rfl)) | (apply T_ifT; (· exact rfl); (· (first | assumption | exact rfl))) | (apply S_gfT'; (· exact rfl); (· exact rfl); (· exact rfl); (· (first | assumption | exact rfl))) | apply S_move | apply S_assign | (apply S_pickT; (· exact gt_any rfl); (· (first | assumption | exact rfl))) | (apply S_loadP; (· exact rfl); (· exact gt_any rfl); (· exact rfl); (· exact rfl); (· exact rfl); (· (first | exact ⟨rfl, rfl⟩ | exact ⟨rfl, trivial⟩ | assumption))) | (apply S_fieldP; (· exact rfl); (· exact rfl); (· exact rfl); (· exact rfl); (· exact gt_any rfl)) | (apply S_neq; (· exact gt_any rfl); (· exact gt_any rfl)) | apply S_alloc | (apply S_store1; (· exact rfl); (· exact gt_any rfl); (· exact rfl); (· exact rfl); (· exact rfl); (· exact rfl)) | (apply S_build; (· exact rfl); (· exact rfl); (· exact rfl); (· (repeat' (first | exact gtsP_nil | exact gt_any rfl | apply gtsP_cons))); (· (repeat' (first | exact BuildR.nil _ | (apply BuildR.cons; (· exact rfl); (· exact rfl); (· exact rfl); (· exact rfl); (· (first | nofun | assumption)); (· (repeat' constructor))))))) | apply S_call (f := 35) | apply c0 | exact PureLC.out | exact gt_any rfl | exact gts_nil | (apply gts_cons; (· exact gt_any rfl)) | exact okCells_of rfl rfl | exact rfl | fail)
  subst hc0
  clear hcd
  have dc : (!decide ((0 : Int) = 0)) = false := rfl
  by_cases h4 : ws.length = 4
  case neg =>
    have d0 : (!decide (((ws.map byA).length : Int) = 4)) = true := by rw [List.length_map, decide_eq_false (by omega)]; rfl
    rw [upE_len h4]
    repeat' (first | refine T_seq ?_ | refine N_then ?_ | refine N_thenR ?_ | refine T_regX tyOk ?_ | refine S_nil ?_ | refine T_ret ?_ | (apply E_X <;> repeat' (first | exact resL_nil | (apply resL_tmp; (· exact rfl)) | (apply resL_cell; (· exact rfl); (· exact rfl); (· exact rfl); (· exact rfl); (· exact rfl); (· exact rfl)) | (apply resL_arr; (· exact rfl); (· exact rfl); (· exact rfl); (· exact rfl); (· (first | assumption | exact rfl))) | exact viewL_nil | apply viewL_cons | apply view_nothingE | (apply view_slE; (· exact rfl); (· first | exact rfl | assumption | (simp [bA_length]; done) | (simp [bA_length]; omega) | omega); (· exact PureEC.out)) | (apply view_loose; (· exact PureEC.out)) | apply view_agg | apply view_tup | (apply View.ofEq; (· exact PureC.out)) | exact rfl)) | (apply T_ifT; (· exact rfl); (· (first | assumption | exact rfl))) | (apply S_gf; (· exact rfl); (· exact rfl); (· (first | assumption | exact rfl))) | (apply S_gfT'; (· exact rfl); (· exact rfl); (· exact rfl); (· (first | assumption | exact rfl))) | apply S_move | apply S_assign | (apply S_pickT; (· exact gt_any rfl); (· (first | assumption | exact rfl))) | (apply S_pickF; (· exact gt_any rfl); (· (first | assumption | exact rfl))) | (apply S_loadP; (· exact rfl); (· exact gt_any rfl); (· exact rfl); (· exact rfl); (· exact rfl); (· (first | exact ⟨rfl, rfl⟩ | exact ⟨rfl, trivial⟩ | assumption))) | (apply S_fieldP; (· exact rfl); (· exact rfl); (· exact rfl); (· exact rfl); (· exact gt_any rfl)) | (apply S_neq; (· exact gt_any rfl); (· exact gt_any rfl)) | (apply S_len_ls; (· exact rfl); (· exact gt_any rfl)) | apply S_alloc | (apply S_store1; (· exact rfl); (· exact gt_any rfl); (· exact rfl); (· exact rfl); (· exact rfl); (· exact rfl)) | (apply S_build; (· exact rfl); (· exact rfl); (· exact rfl); (· (repeat' (first | exact gtsP_nil | exact gt_any rfl | apply gtsP_cons))); (· (repeat' (first | exact BuildR.nil _ | (apply BuildR.cons; (· exact rfl); (· exact rfl); (· exact rfl); (· exact rfl); (· (first | nofun | assumption)); (· (repeat' constructor))))))) | apply S_call (f := 35) | apply c0 | exact PureLC.out | exact gt_any rfl | exact gts_nil | (apply gts_cons; (· exact gt_any rfl)) | exact okCells_of rfl rfl | exact rfl | fail)
  match ws, h4 with
  | [w0, w1, w2, w3], _ =>
  have d0 : (!decide ((4 : Int) = 4)) = false := rfl
  have i0 : (0 : Int) ≤ 0 ∧ (0 : Int) < ((List.map byA [w0, w1, w2, w3]).length : Int) := ⟨by decide, by simp⟩
  have i1 : (0 : Int) ≤ 1 ∧ (1 : Int) < ((List.map byA [w0, w1, w2, w3]).length : Int) := ⟨by decide, by simp⟩
  have i2 : (0 : Int) ≤ 2 ∧ (2 : Int) < ((List.map byA [w0, w1, w2, w3]).length : Int) := ⟨by decide, by simp⟩
  have i3 : (0 : Int) ≤ 3 ∧ (3 : Int) < ((List.map byA [w0, w1, w2, w3]).length : Int) := ⟨by decide, by simp⟩
  by_cases h0 : w0.length = 1
  case neg =>
    have d1 : (!decide (((bA w0).length : Int) = 1)) = true := by rw [bA_length, decide_eq_false (by omega)]; rfl
    rw [upE_first h0]
    repeat' (first | refine T_seq ?_ | refine N_then ?_ | refine N_thenR ?_ | refine T_regX tyOk ?_ | refine S_nil ?_ | refine T_ret ?_ | (apply E_X <;> repeat' (first | exact resL_nil | (apply resL_tmp; (· exact rfl)) | (apply resL_cell; (· exact rfl); (· exact rfl); (· exact rfl); (· exact rfl); (· exact rfl); (· exact rfl)) | (apply resL_arr; (· exact rfl); (· exact rfl); (· exact rfl); (· exact rfl); (· (first | assumption | exact rfl))) | exact viewL_nil | apply viewL_cons | apply view_nothingE | (apply view_slE; (· exact rfl); (· first | exact rfl | assumption | (simp [bA_length]; done) | (simp [bA_length]; omega) | omega); (· exact PureEC.out)) | (apply view_loose; (· exact PureEC.out)) | apply view_agg | apply view_tup | (apply View.ofEq; (· exact PureC.out)) | exact rfl)) | (apply T_ifT; (· exact rfl); (· (first | assumption | exact rfl))) | (apply S_gf; (· exact rfl); (· exact rfl); (· (first | assumption | exact rfl))) | (apply S_gfT'; (· exact rfl); (· exact rfl); (· exact rfl); (· (first | assumption | exact rfl))) | apply S_move | apply S_assign | (apply S_pickT; (· exact gt_any rfl); (· (first | assumption | exact rfl))) | (apply S_pickF; (· exact gt_any rfl); (· (first | assumption | exact rfl))) | (apply S_loadP; (· exact rfl); (· exact gt_any rfl); (· exact rfl); (· exact rfl); (· exact rfl); (· (first | exact ⟨rfl, rfl⟩ | exact ⟨rfl, trivial⟩ | assumption))) | (apply S_loadV; (· exact rfl); (· exact gt_any rfl); (· exact rfl); (· (first | exact ⟨rfl, rfl⟩ | exact ⟨rfl, trivial⟩ | assumption))) | (apply S_fieldP; (· exact rfl); (· exact rfl); (· exact rfl); (· exact rfl); (· exact gt_any rfl)) | (apply S_neq; (· exact gt_any rfl); (· exact gt_any rfl)) | (apply S_len_ls; (· exact rfl); (· exact gt_any rfl)) | apply S_alloc | (apply S_store1; (· exact rfl); (· exact gt_any rfl); (· exact rfl); (· exact rfl); (· exact rfl); (· exact rfl)) | (apply S_build; (· exact rfl); (· exact rfl); (· exact rfl); (· (repeat' (first | exact gtsP_nil | exact gt_any rfl | apply gtsP_cons))); (· (repeat' (first | exact BuildR.nil _ | (apply BuildR.cons; (· exact rfl); (· exact rfl); (· exact rfl); (· exact rfl); (· (first | nofun | assumption)); (· (repeat' constructor))))))) | (apply S_idxLs; (· exact rfl); (· exact rfl); (· exact gt_any rfl); (· exact gt_any rfl)) | apply S_call (f := 35) | apply c0 | exact PureLC.out | exact gt_any rfl | exact gts_nil | (apply gts_cons; (· exact gt_any rfl)) | exact okCells_of rfl rfl | assumption | exact rfl | fail)
  match w0, h0 with
  | [b], _ =>
  have d1 : (!decide ((1 : Int) = 1)) = false := rfl
  clear i0 i1 i2 i3
  have i0 : (0 : Int) ≤ 0 ∧ (0 : Int) < ((List.map byA [[b], w1, w2, w3]).length : Int) := ⟨by decide, by simp⟩
  have i1 : (0 : Int) ≤ 1 ∧ (1 : Int) < ((List.map byA [[b], w1, w2, w3]).length : Int) := ⟨by decide, by simp⟩
  have i2 : (0 : Int) ≤ 2 ∧ (2 : Int) < ((List.map byA [[b], w1, w2, w3]).length : Int) := ⟨by decide, by simp⟩
  have i3 : (0 : Int) ≤ 3 ∧ (3 : Int) < ((List.map byA [[b], w1, w2, w3]).length : Int) := ⟨by decide, by simp⟩
  have ib : (0 : Int) ≤ 0 ∧ (0 : Int) < ((bA [b]).length : Int) := ⟨by decide, by simp [bA]⟩
  have g0 : (List.map byA [[b], w1, w2, w3]).getD (Int.toNat 0) AV.undef = byA [b] := rfl
  have g1 : (List.map byA [[b], w1, w2, w3]).getD (Int.toNat 1) AV.undef = byA w1 := rfl
  have g2 : (List.map byA [[b], w1, w2, w3]).getD (Int.toNat 2) AV.undef = byA w2 := rfl
  have g3 : (List.map byA [[b], w1, w2, w3]).getD (Int.toNat 3) AV.undef = byA w3 := rfl
  have hU : upE [[b], w1, w2, w3] = if w1.length = 7 ∧ w2.length = 7 ∧ evFault (evOf b w1 w2 w3) = 0 then (0, evOf b w1 w2 w3) else (5, e0) := rfl
  rw [hU]
  clear hU
  by_cases h1 : w1.length = 7
  case neg =>
    have d2 : (!decide (((bA w1).length : Int) = 7)) = true := by rw [bA_length, decide_eq_false (by omega)]; rfl
    rw [if_neg (fun h => h1 h.1)]
    repeat' (first | refine T_seq ?_ | refine N_then ?_ | refine N_thenR ?_ | refine T_regX tyOk ?_ | refine S_nil ?_ | refine T_ret ?_ | (apply E_X <;> repeat' (first | exact resL_nil | (apply resL_tmp; (· exact rfl)) | (apply resL_cell; (· exact rfl); (· exact rfl); (· exact rfl); (· exact rfl); (· exact rfl); (· exact rfl)) | (apply resL_arr; (· exact rfl); (· exact rfl); (· exact rfl); (· exact rfl); (· (first | assumption | exact rfl))) | exact viewL_nil | apply viewL_cons | apply view_nothingE | (apply view_slE; (· exact rfl); (· first | exact rfl | assumption | (simp [bA_length]; done) | (simp [bA_length]; omega) | omega); (· exact PureEC.out)) | (apply view_loose; (· exact PureEC.out)) | apply view_agg | apply view_tup | (apply View.ofEq; (· exact PureC.out)) | exact rfl)) | (apply T_ifT; (· exact rfl); (· (first | assumption | exact rfl))) | (apply S_gf; (· exact rfl); (· exact rfl); (· (first | assumption | exact rfl))) | (apply S_gfT'; (· exact rfl); (· exact rfl); (· exact rfl); (· (first | assumption | exact rfl))) | apply S_move | apply S_assign | (apply S_pickT; (· exact gt_any rfl); (· (first | assumption | exact rfl))) | (apply S_pickF; (· exact gt_any rfl); (· (first | assumption | exact rfl))) | (apply S_loadP; (· exact rfl); (· exact gt_any rfl); (· exact rfl); (· exact rfl); (· exact rfl); (· (first | exact ⟨rfl, rfl⟩ | exact ⟨rfl, trivial⟩ | assumption))) | (apply S_loadV; (· exact rfl); (· exact gt_any rfl); (· exact rfl); (· (first | exact ⟨rfl, rfl⟩ | exact ⟨rfl, trivial⟩ | assumption))) | (apply S_fieldP; (· exact rfl); (· exact rfl); (· exact rfl); (· exact rfl); (· exact gt_any rfl)) | (apply S_neq; (· exact gt_any rfl); (· exact gt_any rfl)) | (apply S_len_ls; (· exact rfl); (· exact gt_any rfl)) | apply S_alloc | (apply S_store1; (· exact rfl); (· exact gt_any rfl); (· exact rfl); (· exact rfl); (· exact rfl); (· exact rfl)) | (apply S_build; (· exact rfl); (· exact rfl); (· exact rfl); (· (repeat' (first | exact gtsP_nil | exact gt_any rfl | apply gtsP_cons))); (· (repeat' (first | exact BuildR.nil _ | (apply BuildR.cons; (· exact rfl); (· exact rfl); (· exact rfl); (· exact rfl); (· (first | nofun | assumption)); (· (repeat' constructor))))))) | (apply S_idxLs; (· exact rfl); (· exact rfl); (· exact gt_any rfl); (· exact gt_any rfl)) | apply S_call (f := 35) | apply c0 | exact PureLC.out | exact gt_any rfl | exact gts_nil | (apply gts_cons; (· exact gt_any rfl)) | exact okCells_of rfl rfl | assumption | exact rfl | fail)
  have d2 : (!decide (((bA w1).length : Int) = 7)) = false := by rw [bA_length, decide_eq_true (by omega)]; rfl
  by_cases h2 : w2.length = 7
  case neg =>
    have d3 : (!decide (((bA w2).length : Int) = 7)) = true := by rw [bA_length, decide_eq_false (by omega)]; rfl
    rw [if_neg (fun h => h2 h.2.1)]
    repeat' (first | refine T_seq ?_ | refine N_then ?_ | refine N_thenR ?_ | refine T_regX tyOk ?_ | refine S_nil ?_ | refine T_ret ?_ | (apply E_X <;> repeat' (first | exact resL_nil | (apply resL_tmp; (· exact rfl)) | (apply resL_cell; (· exact rfl); (· exact rfl); (· exact rfl); (· exact rfl); (· exact rfl); (· exact rfl)) | (apply resL_arr; (· exact rfl); (· exact rfl); (· exact rfl); (· exact rfl); (· (first | assumption | exact rfl))) | exact viewL_nil | apply viewL_cons | apply view_nothingE | (apply view_slE; (· exact rfl); (· first | exact rfl | assumption | (simp [bA_length]; done) | (simp [bA_length]; omega) | omega); (· exact PureEC.out)) | (apply view_loose; (· exact PureEC.out)) | apply view_agg | apply view_tup | (apply View.ofEq; (· exact PureC.out)) | exact rfl)) | (apply T_ifT; (· exact rfl); (· (first | assumption | exact rfl))) | (apply S_gf; (· exact rfl); (· exact rfl); (· (first | assumption | exact rfl))) | apply S_move | apply S_assign | (apply S_pickF; (· exact gt_any rfl); (· (first | assumption | exact rfl))) | (apply S_loadP; (· exact rfl); (· exact gt_any rfl); (· exact rfl); (· exact rfl); (· exact rfl); (· (first | exact ⟨rfl, rfl⟩ | exact ⟨rfl, trivial⟩ | assumption))) | (apply S_loadV; (· exact rfl); (· exact gt_any rfl); (· exact rfl); (· (first | exact ⟨rfl, rfl⟩ | exact ⟨rfl, trivial⟩ | assumption))) | (apply S_fieldP; (· exact rfl); (· exact rfl); (· exact rfl); (· exact rfl); (· exact gt_any rfl)) | (apply S_neq; (· exact gt_any rfl); (· exact gt_any rfl)) | (apply S_len_ls; (· exact rfl); (· exact gt_any rfl)) | apply S_alloc | (apply S_store1; (· exact rfl); (· exact gt_any rfl); (· exact rfl); (· exact rfl); (· exact rfl); (· exact rfl)) | (apply S_build; (· exact rfl); (· exact rfl); (· exact rfl); (· (repeat' (first | exact gtsP_nil | exact gt_any rfl | apply gtsP_cons))); (· (repeat' (first | exact BuildR.nil _ | (apply BuildR.cons; (· exact rfl); (· exact rfl); (· exact rfl); (· exact rfl); (· (first | nofun | assumption)); (· (repeat' constructor))))))) | (apply S_idxLs; (· exact rfl); (· exact rfl); (· exact gt_any rfl); (· exact gt_any rfl)) | apply S_call (f := 35) | apply c0 | exact PureLC.out | exact gt_any rfl | exact gts_nil | (apply gts_cons; (· exact gt_any rfl)) | exact okCells_of rfl rfl | assumption | exact rfl | fail)
  have d3 : (!decide (((bA w2).length : Int) = 7)) = false := by rw [bA_length, decide_eq_true (by omega)]; rfl
  have c1 : (CV Tryd.prog 36 [sl1 (bA w1)] (· = .int .i64 (numV w1 : Int))) := l1Number_cv w1 (by omega)
  have c2 : (CV Tryd.prog 36 [sl1 (bA w2)] (· = .int .i64 (numV w2 : Int))) := l1Number_cv w2 (by omega)
  have c3 := specEvtFault_cv (evOf b w1 w2 w3)
  have wb : IntKind.wrap .i64 (b.toNat : Int) = (b.toNat : Int) := by have := UInt8.toNat_lt b; exact wrap_i64 (by omega) (by omega)
  have hev : evOf b w1 w2 w3 = ⟨(b.toNat : Int), (numV w1 : Int), (numV w2 : Int), bStr w3⟩ := rfl
  rw [hev] at c3
  by_cases h3 : evFault (evOf b w1 w2 w3) = 0
  · rw [if_pos ⟨h1, h2, h3⟩, hev]
    rw [hev] at h3
    rw [h3] at c3
    have d4 : (!decide ((0 : Int) = 0)) = false := rfl
    repeat' (first | refine T_seq ?_ | refine N_then ?_ | refine T_regX tyOk ?_ | (apply T_drawQ (id := 5) 20 [19] tyOk mixed; (· exact rfl); (· exact rfl); (· exact rfl); (· kernel_rfl); (· kernel_rfl); (· exact Nat.le_of_ble_eq_true rfl)) | refine S_nil ?_ | refine T_skip ?_ | refine T_ret ?_ | (apply E_X <;> repeat' (first | exact resL_nil | (apply resL_tmp; (· exact rfl)) | (apply resL_cell; (· exact rfl); (· exact rfl); (· exact rfl); (· exact rfl); (· exact rfl); (· exact rfl)) | (apply resL_arr; (· exact rfl); (· exact rfl); (· exact rfl); (· exact rfl); (· (first | assumption | exact rfl))) | exact viewL_nil | apply viewL_cons | apply view_nothingE | (apply view_slE; (· exact rfl); (· first | exact rfl | assumption | (simp [bA_length]; done) | (simp [bA_length]; omega) | omega); (· exact PureEC.out)) | (apply view_loose; (· exact PureEC.out)) | apply view_agg | apply view_tup | (apply View.ofEq; (· exact PureC.out)) | exact rfl)) | (apply T_ifF; (· exact rfl); (· (first | assumption | exact rfl))) | (apply S_gf; (· exact rfl); (· exact rfl); (· (first | assumption | exact rfl))) | apply S_move | apply S_assign | (apply S_pickF; (· exact gt_any rfl); (· (first | assumption | exact rfl))) | (apply S_loadP; (· exact rfl); (· exact gt_any rfl); (· exact rfl); (· exact rfl); (· exact rfl); (· (first | exact ⟨rfl, rfl⟩ | exact ⟨rfl, trivial⟩ | assumption))) | (apply S_loadW; (· exact rfl); (· exact gt_any rfl); (· exact rfl); (· exact rfl); (· exact rfl); (· exact rfl); (· exact rfl); (· exact rfl)) | (apply S_loadV; (· exact rfl); (· exact gt_any rfl); (· exact rfl); (· (first | exact ⟨rfl, rfl⟩ | exact ⟨rfl, trivial⟩ | assumption))) | (apply S_fieldP; (· exact rfl); (· exact rfl); (· exact rfl); (· exact rfl); (· exact gt_any rfl)) | (apply S_neq; (· exact gt_any rfl); (· exact gt_any rfl)) | (apply S_conv; (· exact rfl); (· exact rfl); (· exact gt_any rfl)) | (apply M_convBS; (· exact rfl); (· exact rfl); (· exact rfl); (· exact gt_any rfl); (· exact rfl)) | (apply S_len_ls; (· exact rfl); (· exact gt_any rfl)) | apply S_alloc | (apply S_store1; (· exact rfl); (· exact gt_any rfl); (· exact rfl); (· exact rfl); (· exact rfl); (· exact rfl)) | (apply S_build; (· exact rfl); (· exact rfl); (· exact rfl); (· (repeat' (first | exact gtsP_nil | exact gt_any rfl | apply gtsP_cons))); (· (repeat' (first | exact BuildR.nil _ | (apply BuildR.cons; (· exact rfl); (· exact rfl); (· exact rfl); (· exact rfl); (· (first | nofun | assumption)); (· (repeat' constructor))))))) | (apply S_idxLs; (· exact rfl); (· exact rfl); (· exact gt_any rfl); (· exact gt_any rfl)) | (apply L_alloc tyOk; (· exact rfl); (· exact rfl); (· (first | exact okCells_of rfl rfl | assumption)); (· exact rfl); (· exact rfl)) | apply S_call (f := 35) | apply c0 | apply S_call (f := 36) | apply c1 | apply c2 | apply S_callQ (f := 8) | apply c3 | exact viewL_nil | apply viewL_cons | (apply View.pure; exact PureC.out) | exact FlatC.out | exact PureLC.out | exact gt_any rfl | exact gts_nil | (apply gts_cons; (· exact gt_any rfl)) | exact okCells_of rfl rfl | assumption | exact rfl | fail)
  · rw [if_neg (fun h => h3 h.2.2)]
    rw [hev] at h3
    have d4 : (!decide (evFault ⟨(b.toNat : Int), (numV w1 : Int), (numV w2 : Int), bStr w3⟩ = 0)) = true := by rw [decide_eq_false h3]; rfl
    generalize evFault ⟨(b.toNat : Int), (numV w1 : Int), (numV w2 : Int), bStr w3⟩ = ff at *
    repeat' (first | refine T_seq ?_ | refine N_then ?_ | refine N_thenR ?_ | refine T_regX tyOk ?_ | (apply T_drawQ (id := 5) 20 [19] tyOk mixed; (· exact rfl); (· exact rfl); (· exact rfl); (· kernel_rfl); (· kernel_rfl); (· exact Nat.le_of_ble_eq_true rfl)) | refine S_nil ?_ | refine T_skip ?_ | refine T_ret ?_ | (apply E_X <;> repeat' (first | exact resL_nil | (apply resL_tmp; (· exact rfl)) | (apply resL_cell; (· exact rfl); (· exact rfl); (· exact rfl); (· exact rfl); (· exact rfl); (· exact rfl)) | (apply resL_arr; (· exact rfl); (· exact rfl); (· exact rfl); (· exact rfl); (· (first | assumption | exact rfl))) | exact viewL_nil | apply viewL_cons | apply view_nothingE | (apply view_slE; (· exact rfl); (· first | exact rfl | assumption | (simp [bA_length]; done) | (simp [bA_length]; omega) | omega); (· exact PureEC.out)) | (apply view_loose; (· exact PureEC.out)) | apply view_agg | apply view_tup | (apply View.ofEq; (· exact PureC.out)) | exact rfl)) | (apply T_ifT; (· exact rfl); (· (first | assumption | exact rfl))) | (apply T_ifF; (· exact rfl); (· (first | assumption | exact rfl))) | (apply S_gf; (· exact rfl); (· exact rfl); (· (first | assumption | exact rfl))) | apply S_move | apply S_assign | (apply S_pickF; (· exact gt_any rfl); (· (first | assumption | exact rfl))) | (apply S_loadP; (· exact rfl); (· exact gt_any rfl); (· exact rfl); (· exact rfl); (· exact rfl); (· (first | exact ⟨rfl, rfl⟩ | exact ⟨rfl, trivial⟩ | assumption))) | (apply S_loadW; (· exact rfl); (· exact gt_any rfl); (· exact rfl); (· exact rfl); (· exact rfl); (· exact rfl); (· exact rfl); (· exact rfl)) | (apply S_loadV; (· exact rfl); (· exact gt_any rfl); (· exact rfl); (· (first | exact ⟨rfl, rfl⟩ | exact ⟨rfl, trivial⟩ | assumption))) | (apply S_fieldP; (· exact rfl); (· exact rfl); (· exact rfl); (· exact rfl); (· exact gt_any rfl)) | (apply S_neq; (· exact gt_any rfl); (· exact gt_any rfl)) | (apply S_conv; (· exact rfl); (· exact rfl); (· exact gt_any rfl)) | (apply M_convBS; (· exact rfl); (· exact rfl); (· exact rfl); (· exact gt_any rfl); (· exact rfl)) | (apply S_len_ls; (· exact rfl); (· exact gt_any rfl)) | apply S_alloc | (apply S_store1; (· exact rfl); (· exact gt_any rfl); (· exact rfl); (· exact rfl); (· exact rfl); (· exact rfl)) | (apply S_build; (· exact rfl); (· exact rfl); (· exact rfl); (· (repeat' (first | exact gtsP_nil | exact gt_any rfl | apply gtsP_cons))); (· (repeat' (first | exact BuildR.nil _ | (apply BuildR.cons; (· exact rfl); (· exact rfl); (· exact rfl); (· exact rfl); (· (first | nofun | assumption)); (· (repeat' constructor))))))) | (apply S_idxLs; (· exact rfl); (· exact rfl); (· exact gt_any rfl); (· exact gt_any rfl)) | (apply L_alloc tyOk; (· exact rfl); (· exact rfl); (· (first | exact okCells_of rfl rfl | assumption)); (· exact rfl); (· exact rfl)) | apply S_call (f := 35) | apply c0 | apply S_call (f := 36) | apply c1 | apply c2 | apply S_callQ (f := 8) | apply c3 | exact viewL_nil | apply viewL_cons | (apply View.pure; exact PureC.out) | exact FlatC.out | exact PureLC.out | exact gt_any rfl | exact gts_nil | (apply gts_cons; (· exact gt_any rfl)) | exact okCells_of rfl rfl | assumption | exact rfl | fail)

end Go.Proofs.YtmaginepopldnaaDoor
