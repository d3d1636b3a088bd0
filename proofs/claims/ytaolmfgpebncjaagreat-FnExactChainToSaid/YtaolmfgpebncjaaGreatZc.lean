/- Proofs checked. -/
import Derived.Test.YtaolmfgpebncjaaGreatZa
import Derived.Test.YtaolmfgpebncjaaGreatXh
import Derived.Test.YtaolmfgpebncjaaGreatXj
set_option maxRecDepth 100000
set_option maxHeartbeats 3200000
set_option linter.unusedSimpArgs false
set_option linter.unusedVariables false
namespace Go.Proofs.YtaolmfgpebncjaaGreat
open Go.Av
attribute [local irreducible] T thenQ blockQ againQ againS WX retV retR Gt Gts GtsP okCells CV CR Av.Pure
attribute [local irreducible] sha

abbrev boA (b : Bool) : AV := .bool b
instance : ElemF boA := ⟨fun a y hy => by
  simp only [AV.cells, List.mem_cons, List.not_mem_nil, or_false] at hy
  subst hy
  exact ⟨pure_bool _, rfl⟩⟩
instance : OwnF boA := ⟨fun a y hy => by
  simp only [AV.cells, List.mem_cons, List.not_mem_nil, or_false] at hy
  subst hy
  exact (flat_bool _).own⟩
abbrev boolsA (l : List Bool) : AV := sl1 (l.map boA)

def sidesGo : Nat → Nat → Nat → List Bool
  | 0, _, _ => []
  | f + 1, c, p => if c ≤ 1 then [] else if p < splitN c then sidesGo f (splitN c) p ++ [false] else sidesGo f (c - splitN c) (p - splitN c) ++ [true]
def sidesL (c p : Nat) : List Bool := sidesGo c c p
def plOk (c p : Int) : Bool := (decide (1 ≤ c) && decide (c ≤ 16)) && (decide (0 ≤ p) && decide (p ≤ c - 1))
def plC (c p : Int) : Int := if plOk c p then 0 else 3
def plV (c p : Int) : Int := if plOk c p then ((sidesL c.toNat p.toNat).length : Int) else 0

theorem indexRows_cv (g : Nat) (caps : List AV) (ws : List (List UInt8)) (p : List UInt8 → Bool) (hp : PureC (.fn g caps)) (hv : ViewL [] caps caps) (hl : ws.length ≤ 1000000000) (hc : ∀ w ∈ ws, CV Tryz.prog g (byA w :: caps) (· = .bool (p w))) :
    CV Tryz.prog 173 [rowsA ws, .fn g caps] (· = .int .i64 (idxL p ws)) := by
  refine CV_intro tyOk Tryz.func173 (by kernel_rfl) rfl 19 rfl (by simp) [.tmp 4] rfl ?_
  intro w0 ok0
  have hml : (ws.map byA).length = ws.length := by simp
  have hF : idxL p ws = fiGo p (ws.drop 0) 0 := rfl
  repeat' (first | refine T_seq ?_ | refine N_then ?_ | refine T_regX tyOk ?_ | refine S_nil ?_ | refine T_block ?_ | apply S_move | apply S_assign | (apply S_len_ls; (· exact rfl); (· exact gt_any rfl)) | exact gt_any rfl | exact rfl | fail)
  refine T_roundsS (α := Nat) (fun k => ⟨[(0, rowsA ws), (1, .fn g caps), (7, .int .i64 (ws.map byA).length), (8, .int .i64 k)], [], 0⟩)
    (fun k => ws.length - k) (fun k => k ≤ ws.length ∧ idxL p ws = fiGo p (ws.drop k) k) 0 ((weak_of (by repeat' (first | exact keepE_nil | refine keepE_cons rfl ?_)) (by repeat' (first | exact keepB_nil | refine keepB_cons (by first | rfl | exact congrArg (fun l => some (Box.mk l _ _ _)) hset) ?_)) (Nat.le_refl _))).sub ⟨by omega, hF⟩ ?_
  rintro k ⟨hk, hI⟩
  by_cases hkl : k < ws.length
  · have d : decide ((k : Int) < ((ws.map byA).length : Int)) = true := by simp only [decide_eq_true_eq]; omega
    have hget := map_getD byA ws [] (k := k) (by omega)
    rw [fiGo_step p ws [] hkl] at hI
    have c0 := hc _ (getD_mem ws [] hkl)
    by_cases he : p (ws.getD k []) = true
    · rw [if_pos he] at hI
      rw [hI]
      rw [he] at c0
      repeat' (first | refine T_seq ?_ | refine N_then ?_ | refine N_thenR ?_ | refine N_blockR ?_ | refine N_againSR ?_ | refine T_regX tyOk ?_ | refine S_nil ?_ | refine T_skip ?_ | refine T_ret ?_ | refine T_block ?_ | (apply E_tmp; (· exact rfl); (· (repeat' (first | exact pure_int _ _ | exact pure_bool _ | exact pure_str _); done))) | (apply T_ifT; (· exact rfl); (· (first | assumption | exact rfl))) | apply S_move | apply S_assign | (apply S_loadV; (· exact rfl); (· exact gt_any rfl); (· exact rfl); (· (first | exact ⟨rfl, rfl⟩ | exact ⟨rfl, trivial⟩ | assumption))) | apply S_lss | (apply S_idxLs; (· exact rfl); (· exact rfl); (· exact gt_any rfl); (· exact gt_any rfl)) | apply S_callFC | apply c0 | apply viewL_cons | (apply View.pure; exact PureC.out) | exact FlatC.out | exact gt_any rfl | exact gts_nil | (apply gts_cons; (· exact gt_any rfl)) | assumption | (refine ⟨?_, ?_⟩ <;> omega) | exact rfl | fail)
    · rw [if_neg he] at hI
      simp only [Bool.not_eq_true] at he
      rw [he] at c0
      have hw : IntKind.wrap .i64 ((k : Int) + 1) = ((k + 1 : Nat) : Int) := by rw [wrap_i64 (by omega) (by omega)]; omega
      repeat' (first | refine T_seq ?_ | refine N_then ?_ | refine N_block ?_ | refine T_regX tyOk ?_ | refine S_nil ?_ | refine T_skip ?_ | refine T_block ?_ | (apply T_ifT; (· exact rfl); (· (first | assumption | exact rfl))) | (apply T_ifF; (· exact rfl); (· (first | assumption | exact rfl))) | apply S_move | apply S_assign | (apply S_loadV; (· exact rfl); (· exact gt_any rfl); (· exact rfl); (· (first | exact ⟨rfl, rfl⟩ | exact ⟨rfl, trivial⟩ | assumption))) | apply S_lss | apply S_add | (apply S_idxLs; (· exact rfl); (· exact rfl); (· exact gt_any rfl); (· exact gt_any rfl)) | apply S_callFC | apply c0 | apply viewL_cons | (apply View.pure; exact PureC.out) | exact FlatC.out | exact gt_any rfl | exact gts_nil | (apply gts_cons; (· exact gt_any rfl)) | assumption | (refine ⟨?_, ?_⟩ <;> omega) | exact rfl | fail)
      exact N_againS (k + 1) ((weak_of (by repeat' (first | exact keepE_nil | refine keepE_cons rfl ?_)) (by repeat' (first | exact keepB_nil | refine keepB_cons (by first | rfl | exact congrArg (fun l => some (Box.mk l _ _ _)) hset) ?_)) (Nat.le_refl _))).sub ⟨by omega, hI⟩ (by omega)
  · have d : decide ((k : Int) < ((ws.map byA).length : Int)) = false := by simp only [decide_eq_false_iff_not]; omega
    obtain rfl : k = ws.length := by omega
    rw [List.drop_length] at hI
    rw [hI]
    repeat' (first | refine T_seq ?_ | refine N_then ?_ | refine N_thenE ?_ | refine N_blockE ?_ | refine N_againSE ?_ | refine T_regX tyOk ?_ | refine S_nil ?_ | refine T_ret ?_ | refine T_exit ?_ | (apply E_tmp; (· exact rfl); (· (repeat' (first | exact pure_int _ _ | exact pure_bool _ | exact pure_str _); done))) | (apply T_ifF; (· exact rfl); (· (first | assumption | exact rfl))) | apply S_assign | apply S_lss | exact gt_any rfl | exact rfl | fail)

theorem containsRows_cv (g : Nat) (caps : List AV) (ws : List (List UInt8)) (p : List UInt8 → Bool) (hp : PureC (.fn g caps)) (hv : ViewL [] caps caps) (hl : ws.length ≤ 1000000000) (hc : ∀ w ∈ ws, CV Tryz.prog g (byA w :: caps) (· = .bool (p w))) :
    CV Tryz.prog 126 [rowsA ws, .fn g caps] (· = .bool (ws.any p)) := by
  refine CV_intro tyOk Tryz.func126 (by kernel_rfl) rfl 9 rfl (by simp) [.tmp 4] rfl ?_
  intro w0 ok0
  have c0 := indexRows_cv g caps ws p hp hv hl hc
  rw [← idxL_any]
  repeat' (first | refine T_seq ?_ | refine N_then ?_ | refine T_regX tyOk ?_ | refine S_nil ?_ | refine T_ret ?_ | (apply E_tmp; (· exact rfl); (· (repeat' (first | exact pure_int _ _ | exact pure_bool _ | exact pure_str _); done))) | apply S_move | apply S_assign | apply S_geq | apply S_callQ (f := 173) | apply c0 | exact viewL_nil | apply viewL_cons | (apply View.pure; exact PureC.out) | exact FlatC.out | exact gt_any rfl | exact gts_nil | (apply gts_cons; (· exact gt_any rfl)) | exact rfl | fail)

def rows32 (ws : List (List UInt8)) : Bool := ws.all fun w => decide (w.length = 32)
theorem any_not32 (ws : List (List UInt8)) : (!ws.any fun w => !decide (w.length = 32)) = rows32 ws := by
  unfold rows32
  induction ws with
  | nil => rfl
  | cons w ws ih => rw [List.any_cons, List.all_cons, Bool.not_or, ih, Bool.not_not]

theorem isDigest_cv (w : List UInt8) : CV Tryz.prog 183 [byA w] (· = .bool (decide (w.length = 32))) := by
  refine CV_intro tyOk Tryz.func183 (by kernel_rfl) rfl 6 rfl (by simp) [.tmp 2] rfl ?_
  intro w0 ok0
  have hl := bA_length w
  have e : decide (w.length = 32) = decide (((bA w).length : Int) = 32) := by
    by_cases h : w.length = 32
    · rw [decide_eq_true h, decide_eq_true (by omega)]
    · rw [decide_eq_false h, decide_eq_false (by omega)]
  rw [e]
  repeat' (first | refine T_seq ?_ | refine N_then ?_ | refine T_regX tyOk ?_ | refine S_nil ?_ | refine T_ret ?_ | (apply E_tmp; (· exact rfl); (· (repeat' (first | exact pure_int _ _ | exact pure_bool _ | exact pure_str _); done))) | apply S_move | apply S_assign | (apply S_eql; (· exact gt_any rfl); (· exact gt_any rfl)) | (apply S_len_ls; (· exact rfl); (· exact gt_any rfl)) | exact gt_any rfl | exact rfl | fail)

theorem areDigests1_cv (w : List UInt8) : CV Tryz.prog 182 [byA w] (· = .bool (!decide (w.length = 32))) := by
  refine CV_intro tyOk Tryz.func182 (by kernel_rfl) rfl 6 rfl (by simp) [.tmp 2] rfl ?_
  intro w0 ok0
  have c0 := isDigest_cv w
  repeat' (first | refine T_seq ?_ | refine N_then ?_ | refine T_regX tyOk ?_ | refine S_nil ?_ | refine T_ret ?_ | (apply E_tmp; (· exact rfl); (· (repeat' (first | exact pure_int _ _ | exact pure_bool _ | exact pure_str _); done))) | apply S_move | apply S_assign | apply S_not | apply S_callQ (f := 183) | apply c0 | exact viewL_nil | apply viewL_cons | (apply View.pure; exact PureC.out) | exact FlatC.out | exact gt_any rfl | exact gts_nil | (apply gts_cons; (· exact gt_any rfl)) | exact rfl | fail)

theorem areDigests_cv (ws : List (List UInt8)) (hl : ws.length ≤ 1000000000) : CV Tryz.prog 149 [rowsA ws] (· = .bool (rows32 ws)) := by
  refine CV_intro tyOk Tryz.func149 (by kernel_rfl) rfl 6 rfl (by simp) [.tmp 2] rfl ?_
  intro w0 ok0
  have c0 := containsRows_cv 182 [] ws (fun w => !decide (w.length = 32)) inferInstance viewL_nil hl (fun w _ => areDigests1_cv w)
  rw [← any_not32]
  repeat' (first | refine T_seq ?_ | refine N_then ?_ | refine T_regX tyOk ?_ | refine S_nil ?_ | refine T_ret ?_ | (apply E_tmp; (· exact rfl); (· (repeat' (first | exact pure_int _ _ | exact pure_bool _ | exact pure_str _); done))) | apply S_move | apply S_assign | apply S_not | apply S_callQ (f := 126) | apply c0 | exact viewL_nil | apply viewL_cons | (apply View.pure; exact PureC.out) | exact FlatC.out | exact gt_any rfl | exact gts_nil | (apply gts_cons; (· exact gt_any rfl)) | exact rfl | fail)

end Go.Proofs.YtaolmfgpebncjaaGreat

set_option maxRecDepth 100000
set_option maxHeartbeats 3200000
set_option linter.unusedSimpArgs false
set_option linter.unusedVariables false
namespace Go.Proofs.YtaolmfgpebncjaaGreat
open Go.Av
attribute [local irreducible] T thenQ blockQ againQ againS WX retV retR Gt Gts GtsP okCells CV CR Av.Pure
attribute [local irreducible] sha

def prfOk (x : Prf) : Bool := plOk x.count x.place && (decide (x.path.length = (sidesL x.count.toNat x.place.toNat).length) && rows32 x.path)

def upSt (ss : List Bool) (ps : List (List UInt8)) (o : List UInt8) : Nat → List UInt8
  | 0 => o
  | k + 1 => if ss.getD k false then nodeD (ps.getD k []) (upSt ss ps o k) else nodeD (upSt ss ps o k) (ps.getD k [])
def checkL (root data : List UInt8) (x : Prf) : Bool := prfOk x && decide (upSt (sidesL x.count.toNat x.place.toNat) x.path (leafD data) x.path.length = root)

end Go.Proofs.YtaolmfgpebncjaaGreat
