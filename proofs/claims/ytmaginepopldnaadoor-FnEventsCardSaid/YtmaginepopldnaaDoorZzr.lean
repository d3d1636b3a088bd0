/- Faults of events. -/
import Derived.Test.YtmaginepopldnaaDoorZzq
import Derived.Test.YtmaginepopldnaaDoorWi
import Derived.Test.YtmaginepopldnaaDoorWt
import Derived.Test.YtmaginepopldnaaDoorGi
set_option maxRecDepth 100000
set_option maxHeartbeats 3200000
set_option linter.unusedSimpArgs false
set_option linter.unusedVariables false
namespace Go.Proofs.YtmaginepopldnaaDoor
open Go.Av
attribute [local irreducible] T thenQ blockQ againQ againS WX retV retR Gt Gts GtsP okCells CV CR Av.Pure
attribute [local irreducible] setA

def trimB (cs l : List UInt8) : List UInt8 := trL cs (l.take (trR cs l l.length))
theorem trim_strEq (l : List UInt8) : ((bStr l).toList == (⟨#[]⟩ : ByteArray).toList) = decide (l = []) := str_eq (bStr l) ⟨#[]⟩

theorem trim_cv (cs l : List UInt8) (h : ∀ c ∈ cs, c.toNat < 128) (h2 : 2 ≤ cs.length) (h3 : cs.length ≤ 1000000) (hl : l.length ≤ 1000000) : CV Tryd.prog 30 [.str (bStr l), .str (bStr cs)] (· = .str (bStr (trimB cs l))) := by
  refine CV_intro tyOk Tryd.func30 (by kernel_rfl) rfl 43 rfl (by simp) [.tmp 4] rfl ?_
  intro w0 ok0
  have e0 := trim_strEq l
  have e1 := trim_strEq cs
  have hcn : cs ≠ [] := by rintro rfl; simp at h2
  rw [decide_eq_false hcn] at e1
  have d1 : decide (((bStr cs).size : Int) = 1) = false := by rw [bStr_size]; exact decide_eq_false (by omega)
  by_cases hn : l = []
  · rw [decide_eq_true hn] at e0
    subst hn
    have ht : trimB cs [] = [] := rfl
    rw [ht]
    repeat' (first | refine T_seq ?_ | refine N_then ?_ | refine N_thenR ?_ | refine T_regX tyOk ?_ | refine S_nil ?_ | refine T_ret ?_ | (apply E_tmp; (· exact rfl); (· (repeat' (first | exact pure_int _ _ | exact pure_bool _ | exact pure_str _); done))) | (apply T_ifT; (· exact rfl); (· (first | assumption | exact rfl))) | (apply S_gfT'; (· exact rfl); (· exact rfl); (· exact rfl); (· (first | assumption | exact rfl))) | apply S_move | apply S_assign | (apply S_pickT; (· exact gt_any rfl); (· (first | assumption | exact rfl))) | (apply S_strEq; (· exact gt_any rfl); (· exact gt_any rfl)) | exact gt_any rfl | exact rfl | fail)
  rw [decide_eq_false hn] at e0
  have c0 := makeSet_cv cs h h3
  have c1 := trimRight_cv cs l hl
  have c2 := trimLeft_cv cs (l.take (trR cs l l.length)) (by rw [List.length_take]; omega)
  have ht : trL cs (l.take (trR cs l l.length)) = trimB cs l := rfl
  rw [ht] at c2
  generalize trimB cs l = m at *
  generalize l.take (trR cs l l.length) = m2 at *
  have hok := setA_ok cs
  have hal := setA_all cs
  repeat' (first | refine T_seq ?_ | refine N_then ?_ | refine N_thenR ?_ | refine T_regX tyOk ?_ | refine S_nil ?_ | refine T_skip ?_ | refine T_ret ?_ | (apply E_tmp; (· exact rfl); (· (repeat' (first | exact pure_int _ _ | exact pure_bool _ | exact pure_str _); done))) | (apply T_ifT; (· exact rfl); (· (first | assumption | exact rfl))) | (apply T_ifF; (· exact rfl); (· (first | assumption | exact rfl))) | (apply S_gf; (· exact rfl); (· exact rfl); (· (first | assumption | exact rfl))) | (apply S_gtF'; (· exact rfl); (· exact rfl); (· exact rfl); (· (first | assumption | exact rfl))) | apply S_move | apply S_assign | (apply S_pickF; (· exact gt_any rfl); (· (first | assumption | exact rfl))) | (apply S_eql; (· exact gt_any rfl); (· exact gt_any rfl)) | (apply S_len_str; (· exact rfl); (· exact gt_any rfl)) | apply S_extract | apply S_alloc | (apply S_store1; (· exact rfl); (· exact gt_any rfl); (· exact rfl); (· exact rfl); (· exact rfl); (· exact rfl)) | (apply S_strEq; (· exact gt_any rfl); (· exact gt_any rfl)) | apply S_call (f := 46) | apply c0 | apply S_callQ (f := 48) | apply c1 | apply S_callQ (f := 47) | apply c2 | exact viewL_nil | apply viewL_cons | (apply View.pure; exact PureC.out) | (apply view_ptr; (· exact rfl); (· exact rfl)) | exact FlatC.out | exact PureLC.out | exact gt_any rfl | exact gts_nil | (apply gts_cons; (· exact gt_any rfl)) | exact okCells_of rfl rfl | assumption | exact rfl | fail)
  all_goals exact viewL_pure PureLC.out

def nameB : List UInt8 := [97, 98, 99, 100, 101, 102, 103, 104, 105, 106, 107, 108, 109, 110, 111, 112, 113, 114, 115, 116, 117, 118, 119, 120, 121, 122, 48, 49, 50, 51, 52, 53, 54, 55, 56, 57]
def okN (n : Nat) : Bool := decide (97 ≤ n) && decide (n ≤ 122) || decide (48 ≤ n) && decide (n ≤ 57)
theorem nameB_tab : ((List.range 256).all fun n => inSet nameB n == okN n) = true := by kernel_rfl
theorem nameB_ok (c : UInt8) : inSet nameB c.toNat = okN c.toNat := by
  have := List.all_eq_true.1 nameB_tab c.toNat (List.mem_range.2 (by have := UInt8.toNat_lt c; omega))
  simpa using this
theorem nameB_low : ∀ c ∈ nameB, c.toNat < 128 := by decide

theorem trL_nil (cs : List UInt8) : ∀ l : List UInt8, trL cs l = [] ↔ ∀ c ∈ l, inSet cs c.toNat = true
  | [] => by simp [trL]
  | c :: l => by
    rw [trL]
    by_cases e : inSet cs c.toNat = true
    · rw [if_pos e, trL_nil cs l]; simp [e]
    · rw [if_neg e]; simp [e]
theorem trR_spec (cs l : List UInt8) : ∀ k, k ≤ l.length → (trR cs l k = 0 ∧ ∀ i, i < k → inSet cs (l.getD i 0).toNat = true) ∨ (0 < trR cs l k ∧ trR cs l k ≤ k ∧ ¬ inSet cs (l.getD (trR cs l k - 1) 0).toNat = true)
  | 0, _ => .inl ⟨rfl, fun i h => by omega⟩
  | k + 1, hk => by
    rw [trR]
    by_cases e : inSet cs (l.getD k 0).toNat = true
    · rw [if_pos e]
      rcases trR_spec cs l k (by omega) with ⟨h1, h2⟩ | ⟨h1, h2, h3⟩
      · refine .inl ⟨h1, fun i hi => ?_⟩
        by_cases q : i = k
        · rw [q]; exact e
        · exact h2 i (by omega)
      · exact .inr ⟨h1, by omega, h3⟩
    · rw [if_neg e]
      exact .inr ⟨by omega, Nat.le_refl _, e⟩
theorem trimB_nil (cs l : List UInt8) : trimB cs l = [] ↔ ∀ c ∈ l, inSet cs c.toNat = true := by
  unfold trimB
  rw [trL_nil]
  rcases trR_spec cs l l.length (Nat.le_refl _) with ⟨h1, h2⟩ | ⟨h1, h2, h3⟩
  · rw [h1]
    refine ⟨fun _ c hc => ?_, fun _ c hc => by simp at hc⟩
    obtain ⟨i, hi, rfl⟩ := List.getElem_of_mem hc
    have := h2 i hi
    rwa [List.getD_eq_getElem?_getD, List.getElem?_eq_getElem hi] at this
  · generalize trR cs l l.length = k at *
    refine ⟨fun h => absurd (h (l.getD (k - 1) 0) ?_) h3, fun h c hc => h c (List.mem_of_mem_take hc)⟩
    rw [List.mem_take_iff_getElem]
    refine ⟨k - 1, by omega, ?_⟩
    rw [List.getD_eq_getElem?_getD, List.getElem?_eq_getElem (by omega)]; rfl

def evFault (e : Evt) : Int :=
  if isKind e.kind = false then 1 else if ¬ (1 ≤ e.nonce ∧ e.nonce ≤ 1000000 ∧ 1 ≤ e.amount ∧ e.amount ≤ 1000000000) then 3
  else if ¬ (1 ≤ (strB e.to).length ∧ (strB e.to).length ≤ 12 ∧ ∀ c ∈ strB e.to, okN c.toNat = true) then 5 else 0

theorem evtFault_cv (e : Evt) : CV Tryd.prog 10 [evtA e] (· = .int .i64 (evFault e)) := by
  obtain ⟨k, n, a, s⟩ := e
  obtain ⟨l, rfl⟩ : ∃ l, s = bStr l := ⟨strB s, rfl⟩
  refine CV_intro tyOk Tryd.func10 (by kernel_rfl) rfl 31 rfl (by simp) [.tmp 2] rfl ?_
  intro w0 ok0
  have hE : evFault ⟨k, n, a, bStr l⟩ = if isKind k = false then 1 else if ¬ (1 ≤ n ∧ n ≤ 1000000 ∧ 1 ≤ a ∧ a ≤ 1000000000) then 3 else if ¬ (1 ≤ l.length ∧ l.length ≤ 12 ∧ ∀ c ∈ l, okN c.toNat = true) then 5 else 0 := rfl
  rw [hE]
  clear hE
  have c0 := isKind_cv k
  by_cases hk : isKind k = false
  · rw [hk] at c0
    have d0 : (!false) = true := rfl
    rw [if_pos hk]
    repeat' (first | refine T_seq ?_ | refine N_then ?_ | refine N_thenR ?_ | refine N_blockR ?_ | refine T_regX tyOk ?_ | refine S_nil ?_ | refine T_ret ?_ | refine T_block ?_ | (apply E_tmp; (· exact rfl); (· (repeat' (first | exact pure_int _ _ | exact pure_bool _ | exact pure_str _); done))) | (apply T_ifT; (· exact rfl); (· (first | assumption | exact rfl))) | apply S_assign | (apply S_loadP; (· exact rfl); (· exact gt_any rfl); (· exact rfl); (· exact rfl); (· exact rfl); (· (first | exact ⟨rfl, rfl⟩ | exact ⟨rfl, trivial⟩ | assumption))) | (apply S_fieldP; (· exact rfl); (· exact rfl); (· exact rfl); (· exact rfl); (· exact gt_any rfl)) | apply S_not | apply S_box | apply S_callQ (f := 27) | apply c0 | exact viewL_nil | apply viewL_cons | (apply View.pure; exact PureC.out) | exact FlatC.out | exact gt_any rfl | exact gts_nil | (apply gts_cons; (· exact gt_any rfl)) | exact okCells_of rfl rfl | assumption | exact rfl | fail)
  have hk' : isKind k = true := by simpa using hk
  rw [hk'] at c0
  have d0 : (!true) = false := rfl
  have d0' : (!false) = true := rfl
  rw [if_neg hk]
  have c1 := isNonce_cv n
  by_cases hn : 1 ≤ n ∧ n ≤ 1000000
  case neg =>
    rw [if_pos (fun h => hn ⟨h.1, h.2.1⟩)]
    have r1 := rng_f hn
    repeat' (first | refine T_seq ?_ | refine N_then ?_ | refine N_thenR ?_ | refine N_blockR ?_ | refine T_regX tyOk ?_ | refine S_nil ?_ | refine T_ret ?_ | refine T_block ?_ | (apply E_tmp; (· exact rfl); (· (repeat' (first | exact pure_int _ _ | exact pure_bool _ | exact pure_str _); done))) | (apply T_ifT; (· exact rfl); (· (first | assumption | exact rfl))) | (apply T_ifF; (· exact rfl); (· (first | assumption | exact rfl))) | (apply S_gfT'; (· exact rfl); (· exact rfl); (· exact rfl); (· (first | assumption | exact rfl))) | apply S_move | apply S_assign | (apply S_pickT; (· exact gt_any rfl); (· (first | assumption | exact rfl))) | (apply S_loadP; (· exact rfl); (· exact gt_any rfl); (· exact rfl); (· exact rfl); (· exact rfl); (· (first | exact ⟨rfl, rfl⟩ | exact ⟨rfl, trivial⟩ | assumption))) | (apply S_fieldP; (· exact rfl); (· exact rfl); (· exact rfl); (· exact rfl); (· exact gt_any rfl)) | apply S_not | apply S_box | apply S_callQ (f := 27) | apply c0 | apply S_callQ (f := 28) | apply c1 | exact viewL_nil | apply viewL_cons | (apply View.pure; exact PureC.out) | exact FlatC.out | exact gt_any rfl | exact gts_nil | (apply gts_cons; (· exact gt_any rfl)) | exact okCells_of rfl rfl | assumption | exact rfl | fail)
  have r1 := rng_t hn
  have c2 := in_cv a 1 1000000000
  by_cases ha : 1 ≤ a ∧ a ≤ 1000000000
  case neg =>
    rw [if_pos (fun h => ha h.2.2)]
    have r2 := rng_f ha
    repeat' (first | refine T_seq ?_ | refine N_then ?_ | refine N_thenR ?_ | refine N_blockR ?_ | refine T_regX tyOk ?_ | refine S_nil ?_ | refine T_ret ?_ | refine T_block ?_ | (apply E_tmp; (· exact rfl); (· (repeat' (first | exact pure_int _ _ | exact pure_bool _ | exact pure_str _); done))) | (apply T_ifT; (· exact rfl); (· (first | assumption | exact rfl))) | (apply T_ifF; (· exact rfl); (· (first | assumption | exact rfl))) | (apply S_gf; (· exact rfl); (· exact rfl); (· (first | assumption | exact rfl))) | apply S_move | apply S_assign | (apply S_pickF; (· exact gt_any rfl); (· (first | assumption | exact rfl))) | (apply S_loadP; (· exact rfl); (· exact gt_any rfl); (· exact rfl); (· exact rfl); (· exact rfl); (· (first | exact ⟨rfl, rfl⟩ | exact ⟨rfl, trivial⟩ | assumption))) | (apply S_fieldP; (· exact rfl); (· exact rfl); (· exact rfl); (· exact rfl); (· exact gt_any rfl)) | apply S_not | apply S_box | apply S_callQ (f := 27) | apply c0 | apply S_callQ (f := 28) | apply c1 | apply S_callQ (f := 29) | apply c2 | exact viewL_nil | apply viewL_cons | (apply View.pure; exact PureC.out) | exact FlatC.out | exact gt_any rfl | exact gts_nil | (apply gts_cons; (· exact gt_any rfl)) | exact okCells_of rfl rfl | assumption | exact rfl | fail)
  have r2 := rng_t ha
  rw [if_neg (fun h => h ⟨hn.1, hn.2, ha⟩)]
  have c3 := in_cv ((bStr l).size : Int) 1 12
  have hsz : ((bStr l).size : Int) = l.length := by rw [bStr_size]
  by_cases hl : 1 ≤ ((bStr l).size : Int) ∧ ((bStr l).size : Int) ≤ 12
  case neg =>
    rw [if_pos (fun h => hl ⟨by omega, by omega⟩)]
    have r3 := rng_f hl
    repeat' (first | refine T_seq ?_ | refine N_then ?_ | refine N_thenR ?_ | refine N_blockR ?_ | refine T_regX tyOk ?_ | refine S_nil ?_ | refine T_ret ?_ | refine T_block ?_ | (apply E_tmp; (· exact rfl); (· (repeat' (first | exact pure_int _ _ | exact pure_bool _ | exact pure_str _); done))) | (apply T_ifT; (· exact rfl); (· (first | assumption | exact rfl))) | (apply T_ifF; (· exact rfl); (· (first | assumption | exact rfl))) | (apply S_gf; (· exact rfl); (· exact rfl); (· (first | assumption | exact rfl))) | (apply S_gfT'; (· exact rfl); (· exact rfl); (· exact rfl); (· (first | assumption | exact rfl))) | apply S_move | apply S_assign | (apply S_pickT; (· exact gt_any rfl); (· (first | assumption | exact rfl))) | (apply S_pickF; (· exact gt_any rfl); (· (first | assumption | exact rfl))) | (apply S_loadP; (· exact rfl); (· exact gt_any rfl); (· exact rfl); (· exact rfl); (· exact rfl); (· (first | exact ⟨rfl, rfl⟩ | exact ⟨rfl, trivial⟩ | assumption))) | (apply S_fieldP; (· exact rfl); (· exact rfl); (· exact rfl); (· exact rfl); (· exact gt_any rfl)) | apply S_not | (apply S_len_str; (· exact rfl); (· exact gt_any rfl)) | apply S_box | apply S_callQ (f := 27) | apply c0 | apply S_callQ (f := 28) | apply c1 | apply S_callQ (f := 29) | apply c2 | apply c3 | exact viewL_nil | apply viewL_cons | (apply View.pure; exact PureC.out) | exact FlatC.out | exact gt_any rfl | exact gts_nil | (apply gts_cons; (· exact gt_any rfl)) | exact okCells_of rfl rfl | assumption | exact rfl | fail)
  have r3 := rng_t hl
  have c4 : CV Tryd.prog 30 [.str (bStr l), .str (bStr nameB)] (· = .str (bStr (trimB nameB l))) := trim_cv nameB l nameB_low (by decide) (by decide) (by omega)
  have e4 := trim_strEq (trimB nameB l)
  have hiff := trimB_nil nameB l
  have hall : (trimB nameB l = []) ↔ (1 ≤ l.length ∧ l.length ≤ 12 ∧ ∀ c ∈ l, okN c.toNat = true) := by
    rw [hiff]
    constructor
    · intro h; exact ⟨by omega, by omega, fun c hc => by rw [← nameB_ok]; exact h c hc⟩
    · intro h c hc; rw [nameB_ok]; exact h.2.2 c hc
  clear hiff
  generalize trimB nameB l = m at *
  by_cases ht : m = []
  · rw [if_neg (fun h => h (hall.1 ht))]
    rw [decide_eq_true ht] at e4
    have e5 : (!((bStr m).toList == (⟨#[]⟩ : ByteArray).toList)) = false := by rw [e4]; rfl
    repeat' (first | refine T_seq ?_ | refine N_then ?_ | refine N_block ?_ | refine T_regX tyOk ?_ | refine S_nil ?_ | refine T_skip ?_ | refine T_ret ?_ | refine T_block ?_ | (apply E_tmp; (· exact rfl); (· (repeat' (first | exact pure_int _ _ | exact pure_bool _ | exact pure_str _); done))) | (apply T_ifF; (· exact rfl); (· (first | assumption | exact rfl))) | (apply S_gf; (· exact rfl); (· exact rfl); (· (first | assumption | exact rfl))) | apply S_move | apply S_assign | (apply S_pickF; (· exact gt_any rfl); (· (first | assumption | exact rfl))) | (apply S_loadP; (· exact rfl); (· exact gt_any rfl); (· exact rfl); (· exact rfl); (· exact rfl); (· (first | exact ⟨rfl, rfl⟩ | exact ⟨rfl, trivial⟩ | assumption))) | (apply S_fieldP; (· exact rfl); (· exact rfl); (· exact rfl); (· exact rfl); (· exact gt_any rfl)) | apply S_not | (apply S_len_str; (· exact rfl); (· exact gt_any rfl)) | apply S_box | (apply S_strNe; (· exact gt_any rfl); (· exact gt_any rfl)) | apply S_callQ (f := 27) | apply c0 | apply S_callQ (f := 28) | apply c1 | apply S_callQ (f := 29) | apply c2 | apply c3 | apply S_callQ (f := 30) | apply c4 | exact viewL_nil | apply viewL_cons | (apply View.pure; exact PureC.out) | exact FlatC.out | exact gt_any rfl | exact gts_nil | (apply gts_cons; (· exact gt_any rfl)) | exact okCells_of rfl rfl | assumption | exact rfl | fail)
  · rw [if_pos (fun h => ht (hall.2 h))]
    rw [decide_eq_false ht] at e4
    have e5 : (!((bStr m).toList == (⟨#[]⟩ : ByteArray).toList)) = true := by rw [e4]; rfl
    repeat' (first | refine T_seq ?_ | refine N_then ?_ | refine N_thenR ?_ | refine N_blockR ?_ | refine T_regX tyOk ?_ | refine S_nil ?_ | refine T_ret ?_ | refine T_block ?_ | (apply E_tmp; (· exact rfl); (· (repeat' (first | exact pure_int _ _ | exact pure_bool _ | exact pure_str _); done))) | (apply T_ifT; (· exact rfl); (· (first | assumption | exact rfl))) | (apply T_ifF; (· exact rfl); (· (first | assumption | exact rfl))) | (apply S_gf; (· exact rfl); (· exact rfl); (· (first | assumption | exact rfl))) | apply S_move | apply S_assign | (apply S_pickF; (· exact gt_any rfl); (· (first | assumption | exact rfl))) | (apply S_loadP; (· exact rfl); (· exact gt_any rfl); (· exact rfl); (· exact rfl); (· exact rfl); (· (first | exact ⟨rfl, rfl⟩ | exact ⟨rfl, trivial⟩ | assumption))) | (apply S_fieldP; (· exact rfl); (· exact rfl); (· exact rfl); (· exact rfl); (· exact gt_any rfl)) | apply S_not | (apply S_len_str; (· exact rfl); (· exact gt_any rfl)) | apply S_box | (apply S_strNe; (· exact gt_any rfl); (· exact gt_any rfl)) | apply S_callQ (f := 27) | apply c0 | apply S_callQ (f := 28) | apply c1 | apply S_callQ (f := 29) | apply c2 | apply c3 | apply S_callQ (f := 30) | apply c4 | exact viewL_nil | apply viewL_cons | (apply View.pure; exact PureC.out) | exact FlatC.out | exact gt_any rfl | exact gts_nil | (apply gts_cons; (· exact gt_any rfl)) | exact okCells_of rfl rfl | assumption | exact rfl | fail)

theorem specEvtFault_cv (e : Evt) : CV Tryd.prog 8 [evtA e] (· = .int .i64 (evFault e)) := by
  obtain ⟨k, n, a, s⟩ := e
  obtain ⟨l, rfl⟩ : ∃ l, s = bStr l := ⟨strB s, rfl⟩
  refine CV_intro tyOk Tryd.func8 (by kernel_rfl) rfl 54 rfl (by simp) [.tmp 2] rfl ?_
  intro w0 ok0
  have hE : evFault ⟨k, n, a, bStr l⟩ = if isKind k = false then 1 else if ¬ (1 ≤ n ∧ n ≤ 1000000 ∧ 1 ≤ a ∧ a ≤ 1000000000) then 3 else if ¬ (1 ≤ l.length ∧ l.length ≤ 12 ∧ ∀ c ∈ l, okN c.toNat = true) then 5 else 0 := rfl
  rw [hE]
  clear hE
  have c0 := l9Kind_cv k
  by_cases hk : isKind k = false
  · rw [hk] at c0
    have d0 : (!false) = true := rfl
    rw [if_pos hk]
    repeat' (first | refine T_seq ?_ | refine N_then ?_ | refine N_thenR ?_ | refine T_regX tyOk ?_ | refine S_nil ?_ | refine T_ret ?_ | (apply E_tmp; (· exact rfl); (· (repeat' (first | exact pure_int _ _ | exact pure_bool _ | exact pure_str _); done))) | (apply T_ifT; (· exact rfl); (· (first | assumption | exact rfl))) | apply S_assign | (apply S_loadP; (· exact rfl); (· exact gt_any rfl); (· exact rfl); (· exact rfl); (· exact rfl); (· (first | exact ⟨rfl, rfl⟩ | exact ⟨rfl, trivial⟩ | assumption))) | (apply S_fieldP; (· exact rfl); (· exact rfl); (· exact rfl); (· exact rfl); (· exact gt_any rfl)) | apply S_not | apply S_box | apply S_callQ (f := 25) | apply c0 | exact viewL_nil | apply viewL_cons | (apply View.pure; exact PureC.out) | exact FlatC.out | exact gt_any rfl | exact gts_nil | (apply gts_cons; (· exact gt_any rfl)) | exact okCells_of rfl rfl | assumption | exact rfl | fail)
  have hk' : isKind k = true := by simpa using hk
  rw [hk'] at c0
  have d0 : (!true) = false := rfl
  rw [if_neg hk]
  have c1 := l1In_cv n 1 1000000
  by_cases hn : 1 ≤ n ∧ n ≤ 1000000
  case neg =>
    rw [if_pos (fun h => hn ⟨h.1, h.2.1⟩)]
    have r1 := rng_f hn
    repeat' (first | refine T_seq ?_ | refine N_then ?_ | refine N_thenR ?_ | refine T_regX tyOk ?_ | refine S_nil ?_ | refine T_skip ?_ | refine T_ret ?_ | (apply E_tmp; (· exact rfl); (· (repeat' (first | exact pure_int _ _ | exact pure_bool _ | exact pure_str _); done))) | (apply T_ifT; (· exact rfl); (· (first | assumption | exact rfl))) | (apply T_ifF; (· exact rfl); (· (first | assumption | exact rfl))) | (apply S_gfT'; (· exact rfl); (· exact rfl); (· exact rfl); (· (first | assumption | exact rfl))) | apply S_move | apply S_assign | (apply S_pickT; (· exact gt_any rfl); (· (first | assumption | exact rfl))) | (apply S_loadP; (· exact rfl); (· exact gt_any rfl); (· exact rfl); (· exact rfl); (· exact rfl); (· (first | exact ⟨rfl, rfl⟩ | exact ⟨rfl, trivial⟩ | assumption))) | (apply S_fieldP; (· exact rfl); (· exact rfl); (· exact rfl); (· exact rfl); (· exact gt_any rfl)) | apply S_not | apply S_box | apply S_callQ (f := 25) | apply c0 | apply S_callQ (f := 26) | apply c1 | exact viewL_nil | apply viewL_cons | (apply View.pure; exact PureC.out) | exact FlatC.out | exact gt_any rfl | exact gts_nil | (apply gts_cons; (· exact gt_any rfl)) | exact okCells_of rfl rfl | exact rfl | fail)
  have r1 := rng_t hn
  have c2 := l1In_cv a 1 1000000000
  by_cases ha : 1 ≤ a ∧ a ≤ 1000000000
  case neg =>
    rw [if_pos (fun h => ha h.2.2)]
    have r2 := rng_f ha
    repeat' (first | refine T_seq ?_ | refine N_then ?_ | refine N_thenR ?_ | refine T_regX tyOk ?_ | refine S_nil ?_ | refine T_skip ?_ | refine T_ret ?_ | (apply E_tmp; (· exact rfl); (· (repeat' (first | exact pure_int _ _ | exact pure_bool _ | exact pure_str _); done))) | (apply T_ifT; (· exact rfl); (· (first | assumption | exact rfl))) | (apply T_ifF; (· exact rfl); (· (first | assumption | exact rfl))) | (apply S_gf; (· exact rfl); (· exact rfl); (· (first | assumption | exact rfl))) | apply S_move | apply S_assign | (apply S_pickF; (· exact gt_any rfl); (· (first | assumption | exact rfl))) | (apply S_loadP; (· exact rfl); (· exact gt_any rfl); (· exact rfl); (· exact rfl); (· exact rfl); (· (first | exact ⟨rfl, rfl⟩ | exact ⟨rfl, trivial⟩ | assumption))) | (apply S_fieldP; (· exact rfl); (· exact rfl); (· exact rfl); (· exact rfl); (· exact gt_any rfl)) | apply S_not | apply S_box | apply S_callQ (f := 25) | apply c0 | apply S_callQ (f := 26) | apply c1 | apply c2 | exact viewL_nil | apply viewL_cons | (apply View.pure; exact PureC.out) | exact FlatC.out | exact gt_any rfl | exact gts_nil | (apply gts_cons; (· exact gt_any rfl)) | exact okCells_of rfl rfl | exact rfl | fail)
  have r2 := rng_t ha
  rw [if_neg (fun h => h ⟨hn.1, hn.2, ha⟩)]
  have hs := bStr_size l
  by_cases hl0 : l.length < 1
  · rw [if_pos (fun h => by omega)]
    have q0 : decide (((bStr l).size : Int) < 1) = true := by rw [hs]; exact decide_eq_true (by omega)
    repeat' (first | refine T_seq ?_ | refine N_then ?_ | refine N_thenR ?_ | refine T_regX tyOk ?_ | refine S_nil ?_ | refine T_skip ?_ | refine T_ret ?_ | (apply E_tmp; (· exact rfl); (· (repeat' (first | exact pure_int _ _ | exact pure_bool _ | exact pure_str _); done))) | (apply T_ifT; (· exact rfl); (· (first | assumption | exact rfl))) | (apply T_ifF; (· exact rfl); (· (first | assumption | exact rfl))) | (apply S_gf; (· exact rfl); (· exact rfl); (· (first | assumption | exact rfl))) | (apply S_gfT'; (· exact rfl); (· exact rfl); (· exact rfl); (· (first | assumption | exact rfl))) | apply S_move | apply S_assign | (apply S_pickT; (· exact gt_any rfl); (· (first | assumption | exact rfl))) | (apply S_pickF; (· exact gt_any rfl); (· (first | assumption | exact rfl))) | (apply S_loadP; (· exact rfl); (· exact gt_any rfl); (· exact rfl); (· exact rfl); (· exact rfl); (· (first | exact ⟨rfl, rfl⟩ | exact ⟨rfl, trivial⟩ | assumption))) | (apply S_fieldP; (· exact rfl); (· exact rfl); (· exact rfl); (· exact rfl); (· exact gt_any rfl)) | apply S_lss | apply S_not | (apply S_len_str; (· exact rfl); (· exact gt_any rfl)) | apply S_box | apply S_callQ (f := 25) | apply c0 | apply S_callQ (f := 26) | apply c1 | apply c2 | exact viewL_nil | apply viewL_cons | (apply View.pure; exact PureC.out) | exact FlatC.out | exact gt_any rfl | exact gts_nil | (apply gts_cons; (· exact gt_any rfl)) | exact okCells_of rfl rfl | exact rfl | fail)
  have q0 : decide (((bStr l).size : Int) < 1) = false := by rw [hs]; exact decide_eq_false (by omega)
  by_cases hl1 : 12 < l.length
  · rw [if_pos (fun h => by omega)]
    have q1 : decide ((12 : Int) < ((bStr l).size : Int)) = true := by rw [hs]; exact decide_eq_true (by omega)
    repeat' (first | refine T_seq ?_ | refine N_then ?_ | refine N_thenR ?_ | refine T_regX tyOk ?_ | refine S_nil ?_ | refine T_skip ?_ | refine T_ret ?_ | (apply E_tmp; (· exact rfl); (· (repeat' (first | exact pure_int _ _ | exact pure_bool _ | exact pure_str _); done))) | (apply T_ifT; (· exact rfl); (· (first | assumption | exact rfl))) | (apply T_ifF; (· exact rfl); (· (first | assumption | exact rfl))) | (apply S_gf; (· exact rfl); (· exact rfl); (· (first | assumption | exact rfl))) | apply S_move | apply S_assign | (apply S_pickF; (· exact gt_any rfl); (· (first | assumption | exact rfl))) | (apply S_loadP; (· exact rfl); (· exact gt_any rfl); (· exact rfl); (· exact rfl); (· exact rfl); (· (first | exact ⟨rfl, rfl⟩ | exact ⟨rfl, trivial⟩ | assumption))) | (apply S_fieldP; (· exact rfl); (· exact rfl); (· exact rfl); (· exact rfl); (· exact gt_any rfl)) | apply S_lss | apply S_gtr | apply S_not | (apply S_len_str; (· exact rfl); (· exact gt_any rfl)) | apply S_box | apply S_callQ (f := 25) | apply c0 | apply S_callQ (f := 26) | apply c1 | apply c2 | exact viewL_nil | apply viewL_cons | (apply View.pure; exact PureC.out) | exact FlatC.out | exact gt_any rfl | exact gts_nil | (apply gts_cons; (· exact gt_any rfl)) | exact okCells_of rfl rfl | exact rfl | fail)
  have q1 : decide ((12 : Int) < ((bStr l).size : Int)) = false := by rw [hs]; exact decide_eq_false (by omega)
  have hR : ∀ x, (∀ j, j < x → j < l.length → okN (l.getD j 0).toNat = true) → l.length ≤ x → (if ¬ (1 ≤ l.length ∧ l.length ≤ 12 ∧ ∀ c ∈ l, okN c.toNat = true) then (5 : Int) else 0) = 0 := fun x h hx => if_neg fun h' => h' ⟨by omega, by omega, fun c hc => by
    obtain ⟨i, hi, rfl⟩ := List.getElem_of_mem hc
    have := h i (by omega) hi
    rwa [List.getD_eq_getElem?_getD, List.getElem?_eq_getElem hi] at this⟩
  have hB : ∀ j, j < l.length → okN (l.getD j 0).toNat = false → (if ¬ (1 ≤ l.length ∧ l.length ≤ 12 ∧ ∀ c ∈ l, okN c.toNat = true) then (5 : Int) else 0) = 5 := fun j hj h => if_pos fun h' => by
    have := h'.2.2 _ (getD_mem l 0 hj)
    rw [h] at this; cases this
  generalize (if ¬ (1 ≤ l.length ∧ l.length ≤ 12 ∧ ∀ c ∈ l, okN c.toNat = true) then (5 : Int) else 0) = R at *
  repeat' (first | refine T_seq ?_ | refine N_then ?_ | refine T_regX tyOk ?_ | refine S_nil ?_ | refine T_skip ?_ | refine T_block ?_ | (apply T_ifF; (· exact rfl); (· (first | assumption | exact rfl))) | (apply S_gf; (· exact rfl); (· exact rfl); (· (first | assumption | exact rfl))) | apply S_move | apply S_assign | (apply S_pickF; (· exact gt_any rfl); (· (first | assumption | exact rfl))) | (apply S_loadP; (· exact rfl); (· exact gt_any rfl); (· exact rfl); (· exact rfl); (· exact rfl); (· (first | exact ⟨rfl, rfl⟩ | exact ⟨rfl, trivial⟩ | assumption))) | (apply S_fieldP; (· exact rfl); (· exact rfl); (· exact rfl); (· exact rfl); (· exact gt_any rfl)) | apply S_lss | apply S_gtr | apply S_not | (apply S_len_str; (· exact rfl); (· exact gt_any rfl)) | apply S_box | apply S_callQ (f := 25) | apply c0 | apply S_callQ (f := 26) | apply c1 | apply c2 | exact viewL_nil | apply viewL_cons | (apply View.pure; exact PureC.out) | exact FlatC.out | exact gt_any rfl | exact gts_nil | (apply gts_cons; (· exact gt_any rfl)) | exact okCells_of rfl rfl | exact rfl | fail)
  refine T_roundsS (α := Nat) (fun j => ⟨[(1, .ptr 0 0 0), (3, .int .i64 j)], [(0, some ⟨[.agg [.int .i64 k, .int .i64 n, .int .i64 a, .str (bStr l)]], 4, false, false⟩)], 1⟩)
    (fun j => l.length - j) (fun j => j ≤ l.length ∧ ∀ i, i < j → i < l.length → okN (l.getD i 0).toNat = true) 0 ((weak_of (by repeat' (first | exact keepE_nil | refine keepE_cons rfl ?_)) (by repeat' (first | exact keepB_nil | refine keepB_cons (by first | rfl | exact congrArg (fun l => some (Box.mk l _ _ _)) hset) ?_)) (Nat.le_refl _))).sub ⟨Nat.zero_le _, fun i h => by omega⟩ ?_
  rintro j ⟨hj, hI⟩
  by_cases hjl : j < l.length
  · have p0 : decide ((j : Int) < ((bStr l).size : Int)) = true := by rw [hs]; exact decide_eq_true (by omega)
    have hin : (0 : Int) ≤ (j : Int) ∧ (j : Int) < ((bStr l).size : Int) := by rw [hs]; omega
    have hg : (((bStr l).data.toList.getD ((j : Int)).toNat 0).toNat : Int) = ((l.getD j 0).toNat : Int) := by rw [bStr_list, Int.toNat_natCast]
    have hw1 : IntKind.wrap .i64 ((j : Int) + 1) = ((j + 1 : Nat) : Int) := by rw [wrap_i64 (by omega) (by omega)]; omega
    have hBj := hB j hjl
    have hIj : ∀ q : okN (l.getD j 0).toNat = true, ∀ i, i < j + 1 → i < l.length → okN (l.getD i 0).toNat = true := fun q i h1 h2 => by
      by_cases e : i = j
      · rw [e]; exact q
      · exact hI i (by omega) h2
    generalize l.getD j 0 = c at *
    by_cases a1 : (c.toNat : Int) < 97
    · have A := decide_eq_true a1
      by_cases a3 : (c.toNat : Int) < 48
      · have C := decide_eq_true a3
        rw [hBj (by unfold okN; rw [decide_eq_false (show ¬ 97 ≤ c.toNat by omega), decide_eq_false (show ¬ 48 ≤ c.toNat by omega)]; rfl)]
        repeat' (first | refine T_seq ?_ | refine N_then ?_ | refine N_thenR ?_ | refine N_blockR ?_ | refine N_againSR ?_ | refine T_regX tyOk ?_ | refine S_nil ?_ | refine T_skip ?_ | refine T_ret ?_ | refine T_block ?_ | (apply E_tmp; (· exact rfl); (· (repeat' (first | exact pure_int _ _ | exact pure_bool _ | exact pure_str _); done))) | (apply T_ifT; (· exact rfl); (· (first | assumption | exact rfl))) | (apply S_gt; (· exact rfl); (· exact rfl); (· (first | assumption | exact rfl))) | (apply S_gfT'; (· exact rfl); (· exact rfl); (· exact rfl); (· (first | assumption | exact rfl))) | apply S_move | apply S_assign | (apply S_pickT; (· exact gt_any rfl); (· (first | assumption | exact rfl))) | (apply S_loadP; (· exact rfl); (· exact gt_any rfl); (· exact rfl); (· exact rfl); (· exact rfl); (· (first | exact ⟨rfl, rfl⟩ | exact ⟨rfl, trivial⟩ | assumption))) | (apply S_fieldP; (· exact rfl); (· exact rfl); (· exact rfl); (· exact rfl); (· exact gt_any rfl)) | apply S_lss | (apply S_len_str; (· exact rfl); (· exact gt_any rfl)) | (apply S_idxStr; (· exact rfl); (· exact gt_any rfl); (· exact gt_any rfl)) | exact gt_any rfl | assumption | exact rfl | fail)
      · have C := decide_eq_false a3
        by_cases a4 : (57 : Int) < (c.toNat : Int)
        · have D := decide_eq_true a4
          rw [hBj (by unfold okN; rw [decide_eq_false (show ¬ 97 ≤ c.toNat by omega), decide_eq_false (show ¬ c.toNat ≤ 57 by omega)]; simp)]
          repeat' (first | refine T_seq ?_ | refine N_then ?_ | refine N_thenR ?_ | refine N_blockR ?_ | refine N_againSR ?_ | refine T_regX tyOk ?_ | refine S_nil ?_ | refine T_skip ?_ | refine T_ret ?_ | refine T_block ?_ | (apply E_tmp; (· exact rfl); (· (repeat' (first | exact pure_int _ _ | exact pure_bool _ | exact pure_str _); done))) | (apply T_ifT; (· exact rfl); (· (first | assumption | exact rfl))) | (apply S_gt; (· exact rfl); (· exact rfl); (· (first | assumption | exact rfl))) | (apply S_gf; (· exact rfl); (· exact rfl); (· (first | assumption | exact rfl))) | (apply S_gfT'; (· exact rfl); (· exact rfl); (· exact rfl); (· (first | assumption | exact rfl))) | apply S_move | apply S_assign | (apply S_pickT; (· exact gt_any rfl); (· (first | assumption | exact rfl))) | (apply S_pickF; (· exact gt_any rfl); (· (first | assumption | exact rfl))) | (apply S_loadP; (· exact rfl); (· exact gt_any rfl); (· exact rfl); (· exact rfl); (· exact rfl); (· (first | exact ⟨rfl, rfl⟩ | exact ⟨rfl, trivial⟩ | assumption))) | (apply S_fieldP; (· exact rfl); (· exact rfl); (· exact rfl); (· exact rfl); (· exact gt_any rfl)) | apply S_lss | apply S_gtr | (apply S_len_str; (· exact rfl); (· exact gt_any rfl)) | (apply S_idxStr; (· exact rfl); (· exact gt_any rfl); (· exact gt_any rfl)) | exact gt_any rfl | assumption | exact rfl | fail)
        · have D := decide_eq_false a4
          have hok : okN c.toNat = true := by unfold okN; rw [decide_eq_true (show 48 ≤ c.toNat by omega), decide_eq_true (show c.toNat ≤ 57 by omega)]; simp
          repeat' (first | refine T_seq ?_ | refine N_then ?_ | refine N_block ?_ | refine T_regX tyOk ?_ | refine S_nil ?_ | refine T_skip ?_ | refine T_block ?_ | (apply T_ifT; (· exact rfl); (· (first | assumption | exact rfl))) | (apply T_ifF; (· exact rfl); (· (first | assumption | exact rfl))) | (apply S_gt; (· exact rfl); (· exact rfl); (· (first | assumption | exact rfl))) | (apply S_gf; (· exact rfl); (· exact rfl); (· (first | assumption | exact rfl))) | (apply S_gfT'; (· exact rfl); (· exact rfl); (· exact rfl); (· (first | assumption | exact rfl))) | apply S_move | apply S_assign | (apply S_pickT; (· exact gt_any rfl); (· (first | assumption | exact rfl))) | (apply S_pickF; (· exact gt_any rfl); (· (first | assumption | exact rfl))) | (apply S_loadP; (· exact rfl); (· exact gt_any rfl); (· exact rfl); (· exact rfl); (· exact rfl); (· (first | exact ⟨rfl, rfl⟩ | exact ⟨rfl, trivial⟩ | assumption))) | (apply S_fieldP; (· exact rfl); (· exact rfl); (· exact rfl); (· exact rfl); (· exact gt_any rfl)) | apply S_lss | apply S_gtr | apply S_add | (apply S_len_str; (· exact rfl); (· exact gt_any rfl)) | (apply S_idxStr; (· exact rfl); (· exact gt_any rfl); (· exact gt_any rfl)) | exact gt_any rfl | assumption | exact rfl | fail)
          exact N_againS (j + 1) ((weak_of (by repeat' (first | exact keepE_nil | refine keepE_cons rfl ?_)) (by repeat' (first | exact keepB_nil | refine keepB_cons (by first | rfl | exact congrArg (fun l => some (Box.mk l _ _ _)) hset) ?_)) (Nat.le_refl _))).sub ⟨by omega, hIj hok⟩ (by omega)
    · have A := decide_eq_false a1
      by_cases a2 : (122 : Int) < (c.toNat : Int)
      · have B := decide_eq_true a2
        have C : decide ((c.toNat : Int) < 48) = false := decide_eq_false (by omega)
        have D : decide ((57 : Int) < (c.toNat : Int)) = true := decide_eq_true (by omega)
        rw [hBj (by unfold okN; rw [decide_eq_false (show ¬ c.toNat ≤ 122 by omega), decide_eq_false (show ¬ c.toNat ≤ 57 by omega)]; simp)]
        repeat' (first | refine T_seq ?_ | refine N_then ?_ | refine N_thenR ?_ | refine N_blockR ?_ | refine N_againSR ?_ | refine T_regX tyOk ?_ | refine S_nil ?_ | refine T_skip ?_ | refine T_ret ?_ | refine T_block ?_ | (apply E_tmp; (· exact rfl); (· (repeat' (first | exact pure_int _ _ | exact pure_bool _ | exact pure_str _); done))) | (apply T_ifT; (· exact rfl); (· (first | assumption | exact rfl))) | (apply S_gt; (· exact rfl); (· exact rfl); (· (first | assumption | exact rfl))) | (apply S_gf; (· exact rfl); (· exact rfl); (· (first | assumption | exact rfl))) | apply S_move | apply S_assign | (apply S_pickT; (· exact gt_any rfl); (· (first | assumption | exact rfl))) | (apply S_pickF; (· exact gt_any rfl); (· (first | assumption | exact rfl))) | (apply S_loadP; (· exact rfl); (· exact gt_any rfl); (· exact rfl); (· exact rfl); (· exact rfl); (· (first | exact ⟨rfl, rfl⟩ | exact ⟨rfl, trivial⟩ | assumption))) | (apply S_fieldP; (· exact rfl); (· exact rfl); (· exact rfl); (· exact rfl); (· exact gt_any rfl)) | apply S_lss | apply S_gtr | (apply S_len_str; (· exact rfl); (· exact gt_any rfl)) | (apply S_idxStr; (· exact rfl); (· exact gt_any rfl); (· exact gt_any rfl)) | exact gt_any rfl | assumption | exact rfl | fail)
      · have B := decide_eq_false a2
        have hok : okN c.toNat = true := by unfold okN; rw [decide_eq_true (show 97 ≤ c.toNat by omega), decide_eq_true (show c.toNat ≤ 122 by omega)]; simp
        repeat' (first | refine T_seq ?_ | refine N_then ?_ | refine N_block ?_ | refine T_regX tyOk ?_ | refine S_nil ?_ | refine T_skip ?_ | refine T_block ?_ | (apply T_ifT; (· exact rfl); (· (first | assumption | exact rfl))) | (apply T_ifF; (· exact rfl); (· (first | assumption | exact rfl))) | (apply S_gf; (· exact rfl); (· exact rfl); (· (first | assumption | exact rfl))) | (apply S_gtF'; (· exact rfl); (· exact rfl); (· exact rfl); (· (first | assumption | exact rfl))) | (apply S_gskip'; (· exact rfl); (· exact rfl); (· exact rfl)) | apply S_move | apply S_assign | (apply S_pickF; (· exact gt_any rfl); (· (first | assumption | exact rfl))) | (apply S_loadP; (· exact rfl); (· exact gt_any rfl); (· exact rfl); (· exact rfl); (· exact rfl); (· (first | exact ⟨rfl, rfl⟩ | exact ⟨rfl, trivial⟩ | assumption))) | (apply S_fieldP; (· exact rfl); (· exact rfl); (· exact rfl); (· exact rfl); (· exact gt_any rfl)) | apply S_lss | apply S_gtr | apply S_add | (apply S_len_str; (· exact rfl); (· exact gt_any rfl)) | (apply S_idxStr; (· exact rfl); (· exact gt_any rfl); (· exact gt_any rfl)) | exact gt_any rfl | assumption | exact rfl | fail)
        exact N_againS (j + 1) ((weak_of (by repeat' (first | exact keepE_nil | refine keepE_cons rfl ?_)) (by repeat' (first | exact keepB_nil | refine keepB_cons (by first | rfl | exact congrArg (fun l => some (Box.mk l _ _ _)) hset) ?_)) (Nat.le_refl _))).sub ⟨by omega, hIj hok⟩ (by omega)
  · have p0 : decide ((j : Int) < ((bStr l).size : Int)) = false := by rw [hs]; exact decide_eq_false (by omega)
    rw [hR j hI (by omega)]
    repeat' (first | refine T_seq ?_ | refine N_then ?_ | refine N_thenE ?_ | refine N_blockE ?_ | refine N_againSE ?_ | refine T_regX tyOk ?_ | refine S_nil ?_ | refine T_ret ?_ | refine T_exit ?_ | (apply E_tmp; (· exact rfl); (· (repeat' (first | exact pure_int _ _ | exact pure_bool _ | exact pure_str _); done))) | (apply T_ifF; (· exact rfl); (· (first | assumption | exact rfl))) | apply S_move | apply S_assign | (apply S_loadP; (· exact rfl); (· exact gt_any rfl); (· exact rfl); (· exact rfl); (· exact rfl); (· (first | exact ⟨rfl, rfl⟩ | exact ⟨rfl, trivial⟩ | assumption))) | (apply S_fieldP; (· exact rfl); (· exact rfl); (· exact rfl); (· exact rfl); (· exact gt_any rfl)) | apply S_lss | (apply S_len_str; (· exact rfl); (· exact gt_any rfl)) | exact gt_any rfl | exact rfl | fail)

def evLeft (e : Evt) : Int := IntKind.wrap .i64 (1048576 - (e.to.size : Int))
end Go.Proofs.YtmaginepopldnaaDoor
