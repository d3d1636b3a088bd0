/- Logs that are drawn: what is drawn. -/
import Derived.Test.YthfikpgbddpmoaaYc
import Derived.Test.YthfikpgbddpmoaaYg
import Derived.Test.YthfikpgbddpmoaaXi
set_option maxRecDepth 100000
set_option maxHeartbeats 3200000
set_option linter.unusedSimpArgs false
set_option linter.unusedVariables false
namespace Go.Proofs.Ythfikpgbddpmoaa
open Go.Av
attribute [local irreducible] T thenQ blockQ againQ againS WX retV retR Gt Gts GtsP okCells CV CR Av.Pure
attribute [local irreducible] nextV sha

structure Dlg where
  a : List UInt8
  b : List UInt8
  at' : Nat
def dlgB (code : List UInt8) (s : Dlg) : List UInt8 := if apIn s.a s.b (payV code s.at') = 0 then s.b ++ frameL (payV code s.at') else s.b
def dlgK (code : List UInt8) (s : Dlg) : Nat := s.at' + 3 + (payN code s.at').toNat
def dlgStep (code : List UInt8) (s : Dlg) : Dlg :=
  if nextV code (dlgK code s) 2 = 0 then ⟨syncOut s.a (dlgB code s), [], dlgK code s + 1⟩ else ⟨s.a, dlgB code s, dlgK code s + 1⟩
def dlgRuns (code : List UInt8) : Nat → Dlg → Dlg
  | 0, s => s
  | n + 1, s => dlgRuns code n (dlgStep code s)
def dlgW (s : Dlg) : Nat := s.a.length + s.b.length
theorem dlgB_le (code : List UInt8) (s : Dlg) : (dlgB code s).length ≤ s.b.length + 66 := by
  have := payV_length code s.at'
  unfold dlgB
  split
  · rw [List.length_append, frameL_length]; omega
  · omega
theorem dlgStep_le (code : List UInt8) (s : Dlg) : dlgW (dlgStep code s) ≤ dlgW s + 66 ∧ (dlgStep code s).at' ≤ s.at' + 65 := by
  have h1 := dlgB_le code s
  have h2 := payN_range code s.at'
  unfold dlgStep dlgW dlgK
  split
  · have : (syncOut s.a (dlgB code s)).length ≤ s.a.length + (dlgB code s).length := by
      unfold syncOut
      split
      · rw [List.length_append]; omega
      · simp
    exact ⟨by show (syncOut s.a (dlgB code s)).length + ([] : List UInt8).length ≤ _; simp; omega, by show s.at' + 3 + _ + 1 ≤ _; omega⟩
  · exact ⟨by show s.a.length + (dlgB code s).length ≤ _; omega, by show s.at' + 3 + _ + 1 ≤ _; omega⟩

/-- A drawn log as it is at last: its parts, how much of the loose one counts, whether the first has just room. -/
structure Dle where
  a : List UInt8
  b : List UInt8
  n : Nat
  sl : Bool
  at' : Nat
def addAt (l : List UInt8) (i : Nat) : List UInt8 := l.set i (byteOf (((l.getD i 0).toNat : Int) + 1))
def dlgTurn (code : List UInt8) (s : Dlg) : Dle :=
  if nextV code s.at' 12 = 0 then ⟨s.a ++ someV code (s.at' + 2) (1 + nextV code (s.at' + 1) 9).toNat, s.b, s.b.length, true, s.at' + 2 + (1 + nextV code (s.at' + 1) 9).toNat⟩
  else if nextV code s.at' 12 = 1 then (if 0 < s.a.length then ⟨addAt s.a (nextV code (s.at' + 1) s.a.length).toNat, s.b, s.b.length, true, s.at' + 2⟩ else ⟨s.a, s.b, s.b.length, true, s.at' + 1⟩)
  else if nextV code s.at' 12 = 2 then (if 0 < s.b.length then ⟨s.a, s.b, (nextV code (s.at' + 1) s.b.length).toNat, true, s.at' + 2⟩ else ⟨s.a, s.b, s.b.length, true, s.at' + 1⟩)
  else ⟨s.a, s.b, s.b.length, true, s.at' + 1⟩
def dlgFull (code : List UInt8) (e : Dle) : Dle :=
  if nextV code e.at' 60 = 0 then ⟨List.replicate ((2000 - (e.n : Int)) + nextV code (e.at' + 1) 2).toNat 0, e.b, e.n, false, e.at' + 2⟩ else ⟨e.a, e.b, e.n, e.sl, e.at' + 1⟩
def drwLog (code : List UInt8) (k : Nat) : Dle := dlgFull code (dlgTurn code (dlgRuns code (nextV code k 6).toNat ⟨[], [], k + 1⟩))
theorem dlgRuns_le (code : List UInt8) : ∀ (n : Nat) (s : Dlg), dlgW (dlgRuns code n s) ≤ dlgW s + 66 * n ∧ (dlgRuns code n s).at' ≤ s.at' + 65 * n
  | 0, s => ⟨by simp [dlgRuns], by simp [dlgRuns]⟩
  | n + 1, s => by
    obtain ⟨h1, h2⟩ := dlgStep_le code s
    obtain ⟨k1, k2⟩ := dlgRuns_le code n (dlgStep code s)
    rw [dlgRuns]
    exact ⟨by omega, by omega⟩
theorem dlgTurn_le (code : List UInt8) (s : Dlg) (h : dlgW s ≤ 1000) : (dlgTurn code s).a.length ≤ 1010 ∧ (dlgTurn code s).b.length ≤ 1000 ∧ (dlgTurn code s).n ≤ (dlgTurn code s).b.length ∧ (dlgTurn code s).at' ≤ s.at' + 11 := by
  unfold dlgW at h
  have r1 := nextV_range code (s.at' + 1) (n := 9) (by decide)
  unfold dlgTurn
  split
  · exact ⟨by show (s.a ++ someV code (s.at' + 2) _).length ≤ 1010; rw [List.length_append, someV_length]; omega, by show s.b.length ≤ 1000; omega, Nat.le_refl _, by show s.at' + 2 + _ ≤ _; omega⟩
  · split
    · split
      · exact ⟨by show (addAt s.a _).length ≤ 1010; unfold addAt; rw [List.length_set]; omega, by show s.b.length ≤ 1000; omega, Nat.le_refl _, by show s.at' + 2 ≤ _; omega⟩
      · exact ⟨by show s.a.length ≤ 1010; omega, by show s.b.length ≤ 1000; omega, Nat.le_refl _, by show s.at' + 1 ≤ _; omega⟩
    · split
      · split
        · rename_i g
          have r2 := nextV_range code (s.at' + 1) (n := (s.b.length : Int)) (by omega)
          exact ⟨by show s.a.length ≤ 1010; omega, by show s.b.length ≤ 1000; omega, by show (nextV code (s.at' + 1) (s.b.length : Int)).toNat ≤ s.b.length; omega, by show s.at' + 2 ≤ _; omega⟩
        · exact ⟨by show s.a.length ≤ 1010; omega, by show s.b.length ≤ 1000; omega, Nat.le_refl _, by show s.at' + 1 ≤ _; omega⟩
      · exact ⟨by show s.a.length ≤ 1010; omega, by show s.b.length ≤ 1000; omega, Nat.le_refl _, by show s.at' + 1 ≤ _; omega⟩
theorem dlgFull_le (code : List UInt8) (e : Dle) (h : e.a.length ≤ 1010) : (dlgFull code e).a.length ≤ 2001 ∧ (dlgFull code e).b = e.b ∧ (dlgFull code e).n = e.n ∧ (dlgFull code e).at' ≤ e.at' + 2 := by
  have r1 := nextV_range code (e.at' + 1) (n := 2) (by decide)
  unfold dlgFull
  split
  · exact ⟨by show (List.replicate _ _).length ≤ 2001; rw [List.length_replicate]; omega, rfl, rfl, by show e.at' + 2 ≤ _; omega⟩
  · exact ⟨by show e.a.length ≤ 2001; omega, rfl, rfl, by show e.at' + 1 ≤ _; omega⟩
theorem drwLog_le (code : List UInt8) (k : Nat) : (drwLog code k).a.length ≤ 2001 ∧ (drwLog code k).b.length ≤ 1000 ∧ (drwLog code k).n ≤ (drwLog code k).b.length ∧ (drwLog code k).at' ≤ k + 500 := by
  have r := nextV_range code k (n := 6) (by decide)
  obtain ⟨h1, h2⟩ := dlgRuns_le code (nextV code k 6).toNat ⟨[], [], k + 1⟩
  have h0 : dlgW ⟨[], [], k + 1⟩ = 0 := rfl
  rw [h0] at h1
  simp only at h2
  obtain ⟨t1, t2, t3, t4⟩ := dlgTurn_le code (dlgRuns code (nextV code k 6).toNat ⟨[], [], k + 1⟩) (by omega)
  obtain ⟨f1, f2, f3, f4⟩ := dlgFull_le code _ t1
  unfold drwLog
  rw [f2, f3]
  exact ⟨f1, t2, t3, by omega⟩

end Go.Proofs.Ythfikpgbddpmoaa
