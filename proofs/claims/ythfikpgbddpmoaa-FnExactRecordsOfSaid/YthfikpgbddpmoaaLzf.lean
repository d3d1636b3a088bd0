/- The law of ReadRecords. -/
import Derived.Test.YthfikpgbddpmoaaNb
import Derived.Test.YthfikpgbddpmoaaWt
import Derived.Test.YthfikpgbddpmoaaGj
import Derived.Test.YthfikpgbddpmoaaGk
set_option maxRecDepth 100000
set_option maxHeartbeats 3200000
set_option linter.unusedSimpArgs false
set_option linter.unusedVariables false
namespace Go.Proofs.Ythfikpgbddpmoaa
open Go.Av
attribute [local irreducible] T thenQ blockQ againQ againS WX retV retR Gt Gts GtsP okCells CV CR Av.Pure
attribute [local irreducible] sha readRs readAt

theorem rd_sum (d : List UInt8) : ∀ k, (rdSt d k).1.flatten.length + (rdSt d k).1.length ≤ (rdSt d k).2
  | 0 => by simp [rdSt]
  | k + 1 => by
    have ih := rd_sum d k
    rw [rdSt]
    split
    · rename_i h
      have := recIs_ok h.2
      have hp := recPay_length this.2.2.1
      simp only [List.flatten_append, List.flatten_cons, List.flatten_nil, List.append_nil, List.length_append, List.length_cons, List.length_nil]
      omega
    · exact ih
attribute [local semireducible] readRs readAt in
theorem readRs_sum (d : List UInt8) : (readRs d).flatten.length + (readRs d).length ≤ d.length := by
  have h1 := rd_sum d d.length
  have h2 := (rd_le d d.length).1
  have e : readRs d = (rdSt d d.length).1 := rfl
  rw [e]
  omega
theorem listW_rows (rows : List (List UInt8)) : listW List.length rows = rows.length + rows.flatten.length := by
  unfold listW sumW
  rw [List.length_flatten]

end Go.Proofs.Ythfikpgbddpmoaa
