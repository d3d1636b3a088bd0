/- What append does. -/
import Derived.Test.YtgakkecaflppfaaAv13
set_option linter.unusedSimpArgs false
namespace Go.Av

section
variable {P : Program} {ty : TypeId → Option TI} {G : Gh} {bx : List (Nat × Option Box)} {nx : Nat} {φ : Nat → Option Loc} {w : World}

/-- What is appended: so many elements, these cells. -/
def AppSrc (P : Program) (ei : TI) (z : Value) (w : World) (xt : TypeId) (x : Value) (n : Nat) (us : List Value) : Prop :=
  (∃ d, P.underlying xt = some d ∧ (∀ k, d ≠ .int k) ∧ (Builtin.lenOf x).run P w = .ok n w ∧
    (Builtin.lenOf x).run P w.drew = .ok n w.drew ∧ (Builtin.firstCells ei.size n x).run P w = .ok us.toArray w ∧ (Builtin.firstCells ei.size n x).run P w.drew = .ok us.toArray w.drew) ∨
  (∃ k k', P.underlying xt = some (.int k) ∧ x = .int k' (n : Int) ∧ (n : Int) ≤ 9223372036854775807 ∧ n * ei.bytes ≤ 140737488355328 ∧ us = (Builtin.zeroCells z.cells n).toList ∧ z.cells.size = ei.size)

theorem wrap_nat {n : Nat} (h : (n : Int) ≤ 9223372036854775807) : IntKind.i64.wrap (n : Int) = n := by
  rw [IntKind.wrap_i64]; omega

theorem run_append_fits (t xt ty' : TypeId) {e : TypeId} {ei : TI} {d : TypeDesc} {f : TypeInfo} {z : Value} (hu : P.underlying t = some (.slice e)) (T : TyAt P e ei d f z)
    {base : Option Addr} {len cap n : Nat} {x : Value} {us : List Value} (hs : AppSrc P ei z w xt x n us) (hfit : len + n ≤ cap) (hul : us.length = n * ei.size) :
    (Builtin.append_ #[t, xt] ty' #[.slice base len cap, x]).run P w =
      match base with
      | some a => ((storeCells (a.add (len * ei.size)) us).run P w).andThen fun _ w' => .ok (.slice base (len + n) cap) w'
      | none => .ok (.slice none (len + n) cap) w := by
  rcases hs with ⟨dx, h1, h2, h3, _, h4, _⟩ | ⟨k, k', h1, rfl, h3, h4, rfl, h6⟩
  · have hz : (match dx with | .int _ => true | _ => false) = false := by cases dx <;> first | rfl | exact absurd rfl (h2 _)
    have hzz : (underlying xt).run P w = .ok dx w := run_underlying h1 w
    cases base with
    | none =>
      simp [Builtin.append_, run_underlying hu, T.run_sizeOf, hzz, hz, h3, hfit, h4]
    | some a =>
      simp [Builtin.append_, run_underlying hu, T.run_sizeOf, hzz, hz, h3, hfit, h4]
  · have hzz : (underlying xt).run P w = .ok (.int k) w := run_underlying h1 w
    have hb : ¬ (281474976710656 < (n : Int) * (f.bytes : Int)) := by
      rw [T.bytes]
      have : ((n * ei.bytes : Nat) : Int) ≤ 140737488355328 := by omega
      rw [Int.natCast_mul] at this
      omega
    have hn0 : ¬ ((n : Int) < 0) := by omega
    by_cases h0 : n * ei.size = 0
    · have he : (Builtin.zeroCells z.cells n).toList = [] := by
        apply List.length_eq_zero_iff.1
        rw [hul, h0]
      cases base with
      | none => simp [Builtin.append_, run_underlying hu, T.run_sizeOf, T.run_info, hzz, asInt, asIntOf, wrap_nat h3, hb, hn0, hfit, h0]
      | some a => simp [Builtin.append_, run_underlying hu, T.run_sizeOf, T.run_info, hzz, asInt, asIntOf, wrap_nat h3, hb, hn0, hfit, h0, he]
    · cases base with
      | none => simp [Builtin.append_, run_underlying hu, T.run_sizeOf, T.run_info, T.run_zero, hzz, asInt, asIntOf, wrap_nat h3, hb, hn0, hfit, h0]
      | some a => simp [Builtin.append_, run_underlying hu, T.run_sizeOf, T.run_info, T.run_zero, hzz, asInt, asIntOf, wrap_nat h3, hb, hn0, hfit, h0]

theorem run_append_grows (t xt ty' : TypeId) {e : TypeId} {ei : TI} {d : TypeDesc} {f : TypeInfo} {z : Value} (hu : P.underlying t = some (.slice e)) (T : TyAt P e ei d f z)
    {base : Option Addr} {len cap n : Nat} {x : Value} {us olds : List Value} (hs : AppSrc P ei z w xt x n us) (hfit : ¬ (len + n ≤ cap)) (hul : us.length = n * ei.size)
    (hbytes : (len + n) * ei.bytes ≤ 140737488355328) (h63 : ((len + n : Nat) : Int) ≤ 9223372036854775807) (hpos : 0 < ei.bytes)
    (hold : (Builtin.firstCells ei.size len (.slice base len cap)).run P w.drew = .ok olds.toArray w.drew) :
    (Builtin.append_ #[t, xt] ty' #[.slice base len cap, x]).run P w =
      .ok (.slice (some ⟨w.heap.size, 0, none⟩) (len + n) (grownCap w (len + n) cap e))
        (w.drew.alloc (.cells (olds.toArray ++ us.toArray ++ Builtin.zeroCells z.cells (grownCap w (len + n) cap e - (len + n))) e)) := by
  have hcap : Builtin.nextslicecap (len + n) cap * f.bytes ≤ 281474976710656 := by
    rw [T.bytes]; exact growslice_fits (by omega) hbytes
  have h48 : ¬ (281474976710656 < Builtin.nextslicecap (len + n) cap * f.bytes) := by omega
  have h63' : ¬ (9223372036854775807 < ((len : Int) + (n : Int))) := by omega
  have hb0 : ¬ (f.bytes = 0) := by rw [T.bytes]; omega
  rcases hs with ⟨dx, h1, h2, h3, h3', h4, h4'⟩ | ⟨k, k', h1, rfl, h3, h4, rfl, h6⟩
  · have hz : (match dx with | .int _ => true | _ => false) = false := by cases dx <;> first | rfl | exact absurd rfl (h2 _)
    have hzz : (underlying xt).run P w = .ok dx w := run_underlying h1 w
    simp [Builtin.append_, run_underlying hu, T.run_sizeOf, T.run_info, T.run_zero, hzz, hz, h3, hfit, h4', hold, h63', h48, hb0, Question.forced, newRow, grownCap]
    congr 2
    apply Array.ext'
    simp [List.append_assoc]
  · have hzz : (underlying xt).run P w = .ok (.int k) w := run_underlying h1 w
    have hb : ¬ (281474976710656 < (n : Int) * (f.bytes : Int)) := by
      rw [T.bytes]
      have : ((n * ei.bytes : Nat) : Int) ≤ 140737488355328 := by omega
      rw [Int.natCast_mul] at this
      omega
    have hn0 : ¬ ((n : Int) < 0) := by omega
    by_cases h0 : n * ei.size = 0
    · have he : (Builtin.zeroCells z.cells n).toList = [] := by
        apply List.length_eq_zero_iff.1
        rw [hul, h0]
      have he' : Builtin.zeroCells z.cells n = #[] := by
        apply Array.ext'
        rw [he]
      simp [Builtin.append_, run_underlying hu, T.run_sizeOf, T.run_info, T.run_zero, hzz, asInt, asIntOf, wrap_nat h3, hb, hn0, hfit, h0, he', hold, h63', h48, hb0, Question.forced, newRow, grownCap]
    · simp [Builtin.append_, run_underlying hu, T.run_sizeOf, T.run_info, T.run_zero, hzz, asInt, asIntOf, wrap_nat h3, hb, hn0, hfit, h0, hold, h63', h48, hb0, Question.forced, newRow, grownCap]
end

end Go.Av
