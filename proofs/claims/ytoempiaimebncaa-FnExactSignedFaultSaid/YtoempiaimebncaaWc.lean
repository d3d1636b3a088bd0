/- Records of a relayer; marks on bytes. -/
import Derived.Test.YtoempiaimebncaaWb
set_option maxRecDepth 100000
set_option maxHeartbeats 3200000
set_option linter.unusedSimpArgs false
set_option linter.unusedVariables false
namespace Go.Proofs.Ytoempiaimebncaa
open Go.Av
attribute [local irreducible] T thenQ blockQ againQ againS WX retV retR Gt Gts GtsP okCells CV CR Av.Pure

/-- A code and bytes. -/
abbrev bytesRes (c : Int) (bs : List UInt8) : AV := .agg [.int .i64 c, sl1 (bA bs)]

/-- The bytes of a record. -/
def recBytes (k n t : Int) : List UInt8 := byteOf k :: (putN n ++ if k = 2 then putN t else [])
def recCode (k n t : Int) : Int :=
  if ¬ (1 ≤ k ∧ k ≤ 3) then 1 else if ¬ (1 ≤ n ∧ n ≤ 1000000) ∨ ¬ (0 ≤ t ∧ t ≤ 1099511627776) then 3 else if t ≠ 0 ∧ k ≠ 2 then 1 else 0
def recOut (k n t : Int) : List UInt8 := if recCode k n t = 0 then recBytes k n t else []

theorem recOut_err {k n t : Int} (h : recCode k n t ≠ 0) : recOut k n t = [] := if_neg h

theorem recBytes_two {k n t : Int} (h : k = 2) : bA (recBytes k n t) = [AV.int .u8 ((byteOf k).toNat : Int)] ++ bA (putN n) ++ bA (putN t) := by
  subst h; rfl
theorem recBytes_one {k n t : Int} (h : k ≠ 2) : bA (recBytes k n t) = [AV.int .u8 ((byteOf k).toNat : Int)] ++ bA (putN n) := by
  unfold recBytes; rw [if_neg h]; rfl

theorem recOut_len {k n t : Int} (h : recCode k n t = 0) : (recOut k n t).length = if k = 2 then 15 else 8 := by
  rw [recOut, if_pos h, recBytes]
  split <;> simp [putN_length]

/-- The bytes k, k + 1, .. -/
def marksB (k : Int) (n : Nat) : List UInt8 := (List.range n).map fun i : Nat => byteOf (k + (i : Int))
theorem marksB_length (k : Int) (n : Nat) : (marksB k n).length = n := by simp [marksB]
theorem marksB_step (bs : List UInt8) (k : Int) {j : Nat} (h : j < bs.length) :
    (bA (marksB k j) ++ bA (bs.drop j)).set (0 + ((j : Int)).toNat) (.int .u8 ((byteOf (k + j)).toNat : Int)) = bA (marksB k (j + 1)) ++ bA (bs.drop (j + 1)) := by
  rw [Nat.zero_add, Int.toNat_natCast]
  have hl : (bA (marksB k j)).length = j := by rw [bA_length, marksB_length]
  rw [List.drop_eq_getElem_cons h]
  rw [show bA (bs[j] :: bs.drop (j + 1)) = .int .u8 ((bs[j]).toNat : Int) :: bA (bs.drop (j + 1)) from rfl]
  rw [List.set_append_right _ _ (by omega), hl, Nat.sub_self, List.set_cons_zero]
  rw [marksB, marksB, List.range_succ, List.map_append]
  simp [bA]

theorem marksB_getD (k : Int) (n : Nat) {j : Nat} (h : j < n) : (marksB k n).getD j 0 = byteOf (k + j) := by
  simp [marksB, List.getD_eq_getElem?_getD, h]

end Go.Proofs.Ytoempiaimebncaa
