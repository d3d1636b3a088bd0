/- More ends, more steps; bytes. -/
import Derived.Test.YtgakkecaflppfaaAv32
set_option linter.unusedSimpArgs false
set_option linter.unusedVariables false
namespace Go.Av

/-- A slice of which only its elements are known. -/
abbrev sl1 (xs : List AV) : AV := .ls 1 true false xs

def bA (bs : List UInt8) : List AV := bs.map fun b => .int .u8 (b.toNat : Int)
theorem bA_length (bs : List UInt8) : (bA bs).length = bs.length := by simp [bA]
theorem bA_getD (bs : List UInt8) {k : Nat} (h : k < bs.length) : (bA bs).getD ((k : Int)).toNat .undef = .int .u8 ((bs.getD k 0).toNat : Int) := by
  simp [bA, List.getD, h]

theorem pure_bytes (n e : Bool) (sz : Nat) (bs : List UInt8) : Pure (.ls sz n e (bA bs)) := pure_ls fun x hx y hy => by
  simp only [bA, List.mem_map] at hx
  obtain ⟨b, _, rfl⟩ := hx
  simp only [AV.cells, List.mem_cons, List.not_mem_nil, or_false] at hy
  subst hy
  exact pure_int _ _

theorem byte_le (b : UInt8) : (0 : Int) ≤ (b.toNat : Int) ∧ (b.toNat : Int) ≤ 255 := by
  have := b.toNat_lt
  omega

/-- The end: a row of its own, seen by value. -/
theorem E_sl {ty : TypeId → Option TI} {R : AV → Prop} {t : Nat} {env : List (Nat × AV)} {bx : List (Nat × Option Box)} {nx id off len cap : Nat} {B : Box} (hv : look env t = some (.sl id off len cap)) (hB : box? bx id = some B)
    (hfit : off + len ≤ B.elems.length) (hp : ∀ x ∈ B.elems, ∀ y ∈ x.cells, Pure y) (hR : R (.ls B.st true false ((B.elems.drop off).take len))) : retV ty [.tmp t] R .ret ⟨env, bx, nx⟩ := by
  refine ⟨trivial, True ∧ True, [.sl id off len cap], by simp [resList, resOne, hv], ⟨trivial, trivial⟩, ?_⟩
  refine (vw_sl (bx := shareAll bx) (b := { B with ro := true }) (by rw [box?_shareAll, hB]; rfl) rfl hfit (fun x hx => hp x (List.mem_of_mem_drop (List.mem_of_mem_take hx)))).mono fun y e => ?_
  rw [e]
  exact hR

/-- A copy under way: so many are done. -/
theorem copy_step (xs : List AV) (z : AV) {k : Nat} (h : k < xs.length) {v : AV} (hv : xs[k]? = some v) :
    (xs.take k ++ List.replicate (xs.length - k) z).set (0 + ((k : Int)).toNat) v = xs.take (k + 1) ++ List.replicate (xs.length - (k + 1)) z := by
  simp only [Nat.zero_add, Int.toNat_natCast]
  have hl : (xs.take k).length = k := by simp; omega
  have hl' : (xs.take (k + 1)).length = k + 1 := by simp; omega
  refine List.ext_getElem? fun i => ?_
  rcases Nat.lt_trichotomy i k with hi | hi | hi
  · rw [List.getElem?_set_ne (by omega), List.getElem?_append_left (by omega), List.getElem?_append_left (by omega), List.getElem?_take_of_lt hi, List.getElem?_take_of_lt (by omega)]
  · subst hi
    rw [List.getElem?_set_self (by simp; omega), List.getElem?_append_left (by omega), List.getElem?_take_of_lt (by omega), hv]
  · rw [List.getElem?_set_ne (by omega), List.getElem?_append_right (by omega), List.getElem?_append_right (by omega), hl, hl']
    simp only [List.getElem?_replicate]
    by_cases h' : i < xs.length
    · rw [if_pos (by omega), if_pos (by omega)]
    · rw [if_neg (by omega), if_neg (by omega)]

end Go.Av
