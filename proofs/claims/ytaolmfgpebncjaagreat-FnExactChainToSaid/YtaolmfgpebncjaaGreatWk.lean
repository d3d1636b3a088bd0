/- Copies of the arguments, in boxes of their own. -/
import Derived.Test.YtaolmfgpebncjaaGreatRa
import Derived.Test.YtaolmfgpebncjaaGreatGi
import Derived.Test.YtaolmfgpebncjaaGreatWt
set_option maxRecDepth 100000
set_option maxHeartbeats 3200000
set_option linter.unusedSimpArgs false
set_option linter.unusedVariables false
namespace Go.Proofs.YtaolmfgpebncjaaGreat
open Go.Av
attribute [local irreducible] T thenQ blockQ againQ againS WX retV retR Gt Gts GtsP okCells CV CR Av.Pure

structure Vld where
  key : List UInt8
  power : Int
  deriving DecidableEq

abbrev Vld0 : Vld := ⟨[], 0⟩

abbrev vldA (x : Vld) : AV := .agg [byA x.key, .int .i64 x.power]

abbrev vldAC (x : Vld) : List AV := [byA x.key, .int .i64 x.power]

instance : ElemF vldA := ⟨fun a y hy => by
  have h := (inferInstance : CellsC (vldAC a)).out y hy
  exact h⟩

abbrev vldAS (l : List Vld) : AV := .ls 2 true false (l.map vldA)

def VldW (x : Vld) : Nat := x.key.length

def VldR (x : Vld) : Prop := x.key.length ≤ 9223372036854775807

structure HdB where
  height : Int
  time : Int
  root : List UInt8
  set : List UInt8
  next : List UInt8
  deriving DecidableEq

abbrev HdB0 : HdB := ⟨0, 0, [], [], []⟩

abbrev hdbA (x : HdB) : AV := .agg [.int .i64 x.height, .int .i64 x.time, byA x.root, byA x.set, byA x.next]

abbrev hdbAC (x : HdB) : List AV := [.int .i64 x.height, .int .i64 x.time, byA x.root, byA x.set, byA x.next]

instance : ElemF hdbA := ⟨fun a y hy => by
  have h := (inferInstance : CellsC (hdbAC a)).out y hy
  exact h⟩

abbrev hdbAS (l : List HdB) : AV := .ls 5 true false (l.map hdbA)

def HdBW (x : HdB) : Nat := x.root.length + x.set.length + x.next.length

def HdBR (x : HdB) : Prop := x.root.length ≤ 9223372036854775807 ∧ x.set.length ≤ 9223372036854775807 ∧ x.next.length ≤ 9223372036854775807

end Go.Proofs.YtaolmfgpebncjaaGreat

set_option maxRecDepth 100000
set_option maxHeartbeats 3200000
set_option linter.unusedSimpArgs false
set_option linter.unusedVariables false
namespace Go.Proofs.YtaolmfgpebncjaaGreat
open Go.Av
attribute [local irreducible] T thenQ blockQ againQ againS WX retV retR Gt Gts GtsP okCells CV CR Av.Pure

structure Tru where
  head : HdB
  next : List Vld
  period : Int
  paused : Bool
  roots : List (List UInt8)
  frm : Int
  deriving DecidableEq

abbrev Tru0 : Tru := ⟨⟨0, 0, [], [], []⟩, [], 0, false, [], 0⟩

abbrev truA (x : Tru) : AV := .agg [.int .i64 x.head.height, .int .i64 x.head.time, byA x.head.root, byA x.head.set, byA x.head.next, vldAS x.next, .int .i64 x.period, .bool x.paused, rowsA x.roots, .int .i64 x.frm]

abbrev truAC (x : Tru) : List AV := [.int .i64 x.head.height, .int .i64 x.head.time, byA x.head.root, byA x.head.set, byA x.head.next, vldAS x.next, .int .i64 x.period, .bool x.paused, rowsA x.roots, .int .i64 x.frm]

instance : ElemF truA := ⟨fun a y hy => by
  have h := (inferInstance : CellsC (truAC a)).out y hy
  exact h⟩

abbrev truAS (l : List Tru) : AV := .ls 10 true false (l.map truA)

def TruW (x : Tru) : Nat := HdBW x.head + listW VldW x.next + listW List.length x.roots

def TruR (x : Tru) : Prop := HdBR x.head ∧ listR VldR x.next ∧ rowsR x.roots

end Go.Proofs.YtaolmfgpebncjaaGreat

set_option maxRecDepth 100000
set_option maxHeartbeats 3200000
set_option linter.unusedSimpArgs false
set_option linter.unusedVariables false
namespace Go.Proofs.YtaolmfgpebncjaaGreat
open Go.Av
attribute [local irreducible] T thenQ blockQ againQ againS WX retV retR Gt Gts GtsP okCells CV CR Av.Pure

theorem toByteS_cr0 (q : List UInt8) (h : q.length ≤ 1048576) : CR Tryz.prog 30 [sl1 (q.map u8A)] [] 0 (Is (.sl 0 0 q.length q.length) [(0, some ⟨q.map u8A, 1, false, false⟩)] (0 + 1)) := by
  refine CR_introU tyOk Tryz.func30 (by kernel_rfl) rfl 22 rfl (by simp) [.tmp 2] rfl ?_
  intro w0 ok0 wr φ0
  have hl : (q.map u8A).length = q.length := by simp
  repeat' (first | refine T_seq ?_ | refine N_then ?_ | refine T_regX tyOk ?_ | refine S_nil ?_ | refine T_block ?_ | apply S_move | apply S_assign | (apply S_len_ls; (· exact rfl); (· exact gt_any rfl)) | (apply S_make; (· exact rfl); (· exact rfl); (· exact gt_any rfl); (· exact gt_any rfl); (· exact rfl); (· (first | assumption | omega)); (· (first | assumption | omega | (dsimp only; omega) | (simp; omega))); (· (first | assumption | omega | (dsimp only; omega) | (simp; omega))); (· (first | assumption | omega | (dsimp only; omega) | (simp; omega))); (· (first | exact okCells_of rfl rfl | assumption)); (· (first | exact Nat.le_of_ble_eq_true rfl | omega | decide))) | exact gt_any rfl | exact rfl | fail)
  refine T_roundsS (α := Nat) (fun k => ⟨[(0, sl1 (q.map u8A)), (3, .sl 0 0 (q.map u8A).length (q.map u8A).length), (4, .int .i64 k)], [(0, some ⟨(q.map u8A).take k ++ List.replicate ((q.map u8A).length - k) (u8A 0), 1, false, false⟩)], 1⟩)
    (fun k => (q.map u8A).length - k) (fun k => k ≤ (q.map u8A).length) 0 ((weak_of (by repeat' (first | exact keepE_nil | refine keepE_cons rfl ?_)) (by repeat' (first | exact keepB_nil | refine keepB_cons (by first | rfl | exact congrArg (fun l => some (Box.mk l _ _ _)) hset) ?_)) (Nat.le_refl _))).sub (by omega) ?_
  intro k hk
  by_cases hkl : k < (q.map u8A).length
  · have hc : decide ((k : Int) < ((q.map u8A).length : Int)) = true := by simp only [decide_eq_true_eq]; omega
    have hget := map_getD u8A q 0 (k := k) (by omega)
    have hat := map_at u8A q 0 (k := k) (by omega)
    have hset := copy_step (q.map u8A) (u8A 0) hkl hat
    have hin : 0 + ((k : Int)).toNat < ((q.map u8A).take k ++ List.replicate ((q.map u8A).length - k) (u8A 0)).length := by
      simp only [List.length_append, List.length_take, List.length_replicate]; omega
    have okk : okCells 1 (u8A (q.getD k 0)) := okCells_of rfl rfl
    repeat' (first | refine T_seq ?_ | refine N_then ?_ | refine N_block ?_ | refine T_regX tyOk ?_ | refine S_nil ?_ | refine T_skip ?_ | refine T_block ?_ | (apply T_ifT; (· exact rfl); (· (first | assumption | exact rfl))) | apply S_move | apply S_assign | (apply S_loadV; (· exact rfl); (· exact gt_any rfl); (· exact rfl); (· (first | exact ⟨rfl, rfl⟩ | exact ⟨rfl, trivial⟩ | assumption))) | apply S_lss | apply S_add | (apply S_len_ls; (· exact rfl); (· exact gt_any rfl)) | (apply S_idxLs; (· exact rfl); (· exact rfl); (· exact gt_any rfl); (· exact gt_any rfl)) | (apply S_idxSl; (· exact rfl); (· exact rfl); (· exact gt_any rfl); (· exact rfl); (· exact gt_any rfl)) | (apply S_storeE; (· exact rfl); (· exact gt_any rfl); (· exact rfl); (· exact rfl); (· exact rfl)) | exact gt_any rfl | exact okCells_of rfl rfl | assumption | (apply wrap_i64; (· omega); (· omega)) | (refine ⟨?_, ?_⟩ <;> omega) | exact rfl | fail)
    exact N_againS (k + 1) ((weak_of (by repeat' (first | exact keepE_nil | refine keepE_cons rfl ?_)) (by repeat' (first | exact keepB_nil | refine keepB_cons (by first | rfl | exact congrArg (fun l => some (Box.mk l _ _ _)) hset) ?_)) (Nat.le_refl _))).sub (by omega) (by omega)
  · have hc : decide ((k : Int) < ((q.map u8A).length : Int)) = false := by simp only [decide_eq_false_iff_not]; omega
    obtain rfl : k = (q.map u8A).length := by omega
    have he : (q.map u8A).take (q.map u8A).length ++ List.replicate ((q.map u8A).length - (q.map u8A).length) (u8A 0) = q.map u8A := by
      rw [Nat.sub_self, List.replicate_zero, List.append_nil, List.take_length]
    repeat' (first | refine T_seq ?_ | refine N_then ?_ | refine N_thenE ?_ | refine N_blockE ?_ | refine N_againSE ?_ | refine T_regX tyOk ?_ | refine S_nil ?_ | refine T_ret ?_ | refine T_exit ?_ | (apply T_ifF; (· exact rfl); (· (first | assumption | exact rfl))) | apply S_move | apply S_assign | apply S_lss | (apply S_len_ls; (· exact rfl); (· exact gt_any rfl)) | exact gt_any rfl | exact rfl | fail)
    rw [he]
    (apply E_U0 [(0, 0)] <;> repeat' (first | exact resL_nil | (apply resL_tmp; (· exact rfl)) | (apply resL_cell; (· exact rfl); (· exact rfl); (· exact rfl); (· exact rfl); (· exact rfl); (· exact rfl)) | (apply resL_arr; (· exact rfl); (· exact rfl); (· exact rfl); (· exact rfl); (· (first | assumption | exact rfl))) | exact Ren.sl _ _ _ _ | (apply ren_slE; (· first | exact rfl | omega); (· first | exact rfl | assumption | (simp [bA_length]; done) | (simp [bA_length]; omega)); (· first | exact rfl | assumption | (simp [bA_length]; done) | (simp [bA_length]; omega))) | exact Ren.ptr _ _ _ | exact renL_nil | apply renL_cons | (apply Ren.pure; exact PureC.out) | apply ren_agg | apply ren_tup | exact Low.sl _ _ _ _ (by decide) | exact Low.ptr _ _ _ (by decide) | exact lowL_nil | apply lowL_cons | (apply Low.pure; exact PureC.out) | apply low_agg | apply low_tup | exact pullB_nil | (apply pullB_pureE; (· exact rfl); (· first | exact rfl | assumption | (simp [bA]; done)); (· exact PureEC.out)) | (apply pullB_one; (· exact rfl)) | exact lowBs_nil | apply lowBs_cons | (apply PureB.low; exact PureEC.out) | apply lowX_one | exact lowX_nil | exact rfl))

theorem toByteS_cr (q : List UInt8) (h : q.length ≤ 1048576) (N : Nat) : CR Tryz.prog 30 [sl1 (q.map u8A)] [] N (Is (.sl N 0 q.length q.length) [(N, some ⟨q.map u8A, 1, false, false⟩)] (N + 1)) :=
  CR.allN (toByteS_cr0 q h) N (by first | exact PureC.out | exact PureLC.out | assumption) (by repeat' (first | exact Ren.sl _ _ _ _ | exact Ren.ptr _ _ _ | exact renL_nil | apply renL_cons | (apply Ren.pure; (first | exact PureC.out | exact PureLC.out | assumption)) | apply ren_agg | apply ren_tup)) (by repeat' (first | exact renBs_nil | (apply renBs_pure; (· exact rfl); (· (exact PureEC.out))) | (apply renBs_one; (· exact rfl)) | exact renL_nil | apply renL_cons | exact Ren.sl _ _ _ _ | exact Ren.ptr _ _ _ | (apply Ren.pure; (first | exact PureC.out | exact PureLC.out | assumption)) | apply ren_agg))

end Go.Proofs.YtaolmfgpebncjaaGreat
