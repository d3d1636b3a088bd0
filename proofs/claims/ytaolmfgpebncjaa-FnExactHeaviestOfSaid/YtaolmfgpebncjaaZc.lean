/- Proofs checked. -/
import Derived.Test.YtaolmfgpebncjaaZb
set_option maxRecDepth 100000
set_option maxHeartbeats 3200000
set_option linter.unusedSimpArgs false
set_option linter.unusedVariables false
namespace Go.Proofs.Ytaolmfgpebncjaa
open Go.Av
attribute [local irreducible] T thenQ blockQ againQ againS WX retV retR Gt Gts GtsP okCells CV CR Av.Pure
attribute [local irreducible] sha

/-- Has a proof its form? -/
def prfOk (x : Prf) : Bool := plOk x.count x.place && (decide (x.path.length = (sidesL x.count.toNat x.place.toNat).length) && rows32 x.path)

theorem plC_zero (c p : Int) : decide (plC c p = 0) = plOk c p := by
  unfold plC
  cases plOk c p <;> rfl

theorem rows32_step (ws : List (List UInt8)) {k : Nat} (h : k < ws.length) : rows32 (ws.drop k) = (decide ((ws.getD k []).length = 32) && rows32 (ws.drop (k + 1))) := by
  rw [List.drop_eq_getElem_cons h]
  simp only [rows32, List.all_cons, List.getD_eq_getElem?_getD, List.getElem?_eq_getElem h, Option.getD_some]

/-- What stands at the top of so much of a way. -/
def upSt (ss : List Bool) (ps : List (List UInt8)) (o : List UInt8) : Nat → List UInt8
  | 0 => o
  | k + 1 => if ss.getD k false then nodeD (ps.getD k []) (upSt ss ps o k) else nodeD (upSt ss ps o k) (ps.getD k [])
theorem upSt_length (ss : List Bool) (ps : List (List UInt8)) (o : List UInt8) (h : o.length = 32) : ∀ k, (upSt ss ps o k).length = 32
  | 0 => h
  | k + 1 => by
    rw [upSt]
    split <;> exact nodeD_length _ _
def checkL (root data : List UInt8) (x : Prf) : Bool := prfOk x && decide (upSt (sidesL x.count.toNat x.place.toNat) x.path (leafD data) x.path.length = root)

theorem prf_path {x : Prf} (h : prfOk x = true) : (1 ≤ x.count ∧ x.count ≤ 16) ∧ (0 ≤ x.place ∧ x.place ≤ x.count - 1) ∧ x.path.length = (sidesL x.count.toNat x.place.toNat).length ∧ rows32 x.path = true := by
  unfold prfOk plOk at h
  simpa [and_assoc] using h
theorem rows32_mem {ws : List (List UInt8)} (h : rows32 ws = true) {k : Nat} (hk : k < ws.length) : (ws.getD k []).length = 32 := by
  unfold rows32 at h
  rw [List.all_eq_true] at h
  simpa using h _ (getD_mem ws [] hk)

end Go.Proofs.Ytaolmfgpebncjaa
