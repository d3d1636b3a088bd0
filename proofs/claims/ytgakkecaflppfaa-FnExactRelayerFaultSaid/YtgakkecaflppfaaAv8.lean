/- Slice expressions, elements, parts. -/
import Derived.Test.YtgakkecaflppfaaAv7
namespace Go.Av

section
variable {P : Program} {ty : TypeId → Option TI} {G : Gh} {bx : List (Nat × Option Box)} {nx : Nat} {φ : Nat → Option Loc} {w : World} {ok : Nat → Nat → Prop}

def BV (v : Option Value) (d n : Nat) : Prop := (v = none ∧ n = d) ∨ ∃ k i, v = some (.int k i) ∧ 0 ≤ i ∧ i.toNat = n

theorem bound_ok {get : Operand → AV} {ρ : Operand → Value} {d n : Nat} {x : Option Operand} {p : Prop} (hx : ∀ y, x = some y → Rep w φ ok (get y) (ρ y))
    (h : bound get d x = some (p, n)) (hp : p) : BV (x.map ρ) d n := by
  cases x with
  | none => simp only [bound, Option.some.injEq, Prod.mk.injEq] at h; exact .inl ⟨rfl, h.2.symm⟩
  | some y =>
    have r := hx y rfl
    simp only [bound] at h
    split at h
    · rename_i k i e
      simp only [Option.some.injEq, Prod.mk.injEq] at h
      obtain ⟨rfl, rfl⟩ := h
      rw [e] at r
      generalize hv : ρ y = v at r
      cases r
      exact .inr ⟨k, i, by simp [hv], hp, rfl⟩
    · cases h

theorem run_bounds (isS : Bool) (len cap l h : Nat) (lo hi : Option Value) (hl : BV lo 0 l) (hh : BV hi len h) (h1 : l ≤ h) (h2 : h ≤ cap) :
    (Instr.sliceBounds isS len cap lo hi none).run P w = .ok (l, h, cap) w := by
  rcases hl with ⟨rfl, rfl⟩ | ⟨k, i, rfl, h3, rfl⟩ <;> rcases hh with ⟨rfl, rfl⟩ | ⟨k', i', rfl, h4, rfl⟩
  · simp [Instr.sliceBounds]
  · have e : 0 ≤ i' ∧ i' ≤ (cap : Int) := ⟨h4, by omega⟩
    simp [Instr.sliceBounds, Instr.sliceBound, asIntOf, e]
  · have e : 0 ≤ i ∧ i ≤ (h : Int) := ⟨h3, by omega⟩
    simp [Instr.sliceBounds, Instr.sliceBound, asIntOf, e]
  · have e : 0 ≤ i' ∧ i' ≤ (cap : Int) := ⟨h4, by omega⟩
    have e2 : 0 ≤ i ∧ i ≤ max i' 0 := ⟨h3, by omega⟩
    simp [Instr.sliceBounds, Instr.sliceBound, asIntOf, e, e2]

theorem run_bounds3 (isS : Bool) (len cap l h : Nat) (m : Int) (km : IntKind) (lo hi : Option Value) (hl : BV lo 0 l) (hh : BV hi len h) (hs : hi.isSome = true) (h1 : l ≤ h) (h2 : (h : Int) ≤ m) (h3 : m ≤ (cap : Int)) :
    (Instr.sliceBounds isS len cap lo hi (some (.int km m))).run P w = .ok (l, h, m.toNat) w := by
  have em : 0 ≤ m ∧ m ≤ (cap : Int) := ⟨by omega, h3⟩
  rcases hh with ⟨rfl, rfl⟩ | ⟨k', i', rfl, h4, rfl⟩
  · simp at hs
  · rcases hl with ⟨rfl, rfl⟩ | ⟨k, i, rfl, h5, rfl⟩
    · have e : 0 ≤ i' ∧ i' ≤ max m 0 := ⟨h4, by omega⟩
      simp [Instr.sliceBounds, Instr.sliceBound, asIntOf, em, e]
    · have e : 0 ≤ i' ∧ i' ≤ max m 0 := ⟨h4, by omega⟩
      have e2 : 0 ≤ i ∧ i ≤ max i' 0 := ⟨h5, by omega⟩
      simp [Instr.sliceBounds, Instr.sliceBound, asIntOf, em, e, e2]

theorem run_slice_to {t e : TypeId} (ht : P.underlying t = some (.slice e)) {s : Nat} (hs : (sizeOf e).run P w = .ok s w) (a : Option Addr) (len cap l h m : Nat) (lo hi mx : Option Value)
    (hb : (Instr.sliceBounds true len cap lo hi mx).run P w = .ok (l, h, m) w) :
    (Instr.sliceAt t (.slice a len cap) lo hi mx).run P w = .ok (sliced a l h m s) w := by
  have he : P.elem t = e := by simp [Program.elem, ht]
  have ht' : P.underlying t = some (.slice (P.elem t)) := by rw [he]; exact ht
  rw [run_sliceAt_slice w t _ lo hi mx ht', run_slice_any w t a len cap ht' lo hi mx, hb]
  simp only [Result.andThen_ok, he, hs]

theorem ls_sliced {st s : Nat} {n e : Bool} {xs : List AV} {a : Option Addr} {c l h m : Nat} {ex : Bool} (hx : Rep w φ ok (.ls st n e xs) (.slice a xs.length c))
    (hst : st = s ∨ xs = []) (h1 : l ≤ h) (h2 : h ≤ xs.length) (h3 : h ≤ m) (h4 : m ≤ c) (hex : ex = true → m = h ∧ (n = true → e = true)) : Rep w φ ok (.ls s n ex ((xs.drop l).take (h - l))) (sliced a l h m s) := by
  obtain ⟨_, hl, hc⟩ := hx.ls_cells
  have hlen := hx.ls_len
  have hxl : ((xs.drop l).take (h - l)).length = h - l := by simp; omega
  have hget : ∀ (i : Nat) (x : AV), ((xs.drop l).take (h - l))[i]? = some x → xs[l + i]? = some x ∧ i < h - l := by
    intro i x hi
    have := (List.getElem?_eq_some_iff.1 hi).1
    rw [hxl] at this
    rw [List.getElem?_take_of_lt this, List.getElem?_drop] at hi
    exact ⟨hi, this⟩
  have hst' : ∀ (i : Nat) (x : AV), xs[i]? = some x → st = s := by
    intro i x hi
    rcases hst with h | h
    · exact h
    · subst h; simp at hi
  have key : Rep w φ ok (.ls s n ex ((xs.drop l).take (h - l))) (.slice (if m = l then a else a.map (·.add (l * s))) ((xs.drop l).take (h - l)).length (m - l)) := by
    refine Rep.mk_ls ⟨by rw [hxl]; omega, fun k => by rw [hxl, (hex k).1], fun k k' => ?_, fun k => ?_, fun k => ?_⟩ ?_ ?_
    · have ha0 := hl.2.2.1 k ((hex k').2 k)
      subst ha0
      split <;> rfl
    · have ha0 := hl.2.2.2.1 k
      split
      · exact ha0
      · cases a <;> simp_all
    · obtain ⟨b, o, rfl⟩ := hl.2.2.2.2 (by omega)
      rw [if_neg (by omega)]
      exact ⟨b, o + l * s, by simp [Addr.add_lit]⟩
    · intro i x hi
      obtain ⟨h5, _⟩ := hget i x hi
      rw [← hst' _ _ h5]
      exact hlen _ x h5
    · intro b o ha i x j y hi hj
      obtain ⟨h5, h6⟩ := hget i x hi
      have e := hst' _ _ h5
      subst e
      rw [if_neg (by omega)] at ha
      · obtain ⟨b', o', rfl⟩ := hl.2.2.2.2 (by omega)
        simp only [Option.map_some, Addr.add_lit, Option.some.injEq, Addr.mk.injEq] at ha
        obtain ⟨rfl, rfl, _⟩ := ha
        obtain ⟨v, h7, h8, h9⟩ := hc b' o' rfl (l + i) x j y h5 hj
        rw [show o' + l * st + i * st + j = o' + (l + i) * st + j by rw [Nat.add_mul]; omega]
        exact ⟨v, h7, h8, h9⟩
  rw [hxl] at key
  exact key

theorem sliceVal_ok (hty : TyOk P ty) (hbox : ∀ id b, box? bx id = some b → ∃ L, φ id = some L ∧ b.st = L.st) {get : Operand → AV} {ρ : Operand → Value} (hget : ∀ x, Rep w φ ok (get x) (ρ x)) {t : TypeId} {x : AV} {u : Value} {lo hi mx : Option Operand} {p : Prop} {r : AV}
    (hx : Rep w φ ok x u) (h : sliceVal ty bx get t x lo hi mx = some (p, r)) (hp : p) :
    ∃ v, (Instr.sliceAt t u (lo.map ρ) (hi.map ρ) (mx.map ρ)).run P w = .ok v w ∧ Rep w φ ok r v := by
  unfold sliceVal at h
  cases hs : ty t with
  | none => simp [hs] at h
  | some ti =>
  obtain ⟨d, f, z, T⟩ := hty.at hs
  simp only [hs, Option.map_some] at h
  split at h
  · rename_i s hk
    have hd := T.str (Option.some.inj hk)
    subst hd
    split at h
    · rename_i p' l q' hh e1 e2
      simp only [Option.some.injEq, Prod.mk.injEq] at h
      obtain ⟨rfl, rfl⟩ := h
      obtain ⟨hp1, hp2, h1, h2⟩ := hp
      cases hx
      have B1 := bound_ok (fun y _ => hget y) e1 hp1
      have B2 := bound_ok (fun y _ => hget y) e2 hp2
      refine ⟨.string (s.extract l hh), ?_, .str _⟩
      rw [run_sliceAt_string w t _ _ _ _ T.und]
      simp only [Instr.slice, Sem.run_bind, T.run_und, Result.andThen_ok, Option.map_none, Option.isSome_none]
      simp [run_bounds (P := P) false s.size s.size l hh _ _ B1 B2 h1 h2]
    · cases h
  · rename_i e st n ex xs hk
    have hd := T.slice (Option.some.inj hk)
    subst hd
    obtain ⟨a, c, rfl⟩ := hx.ls_val
    obtain ⟨_, hl, _⟩ := hx.ls_cells
    split at h
    · rename_i ei p' l q' hh e0 e1 e2
      simp only [Option.some.injEq, Prod.mk.injEq] at h
      obtain ⟨rfl, rfl⟩ := h
      obtain ⟨hp1, hp2, h1, h2, h3⟩ := hp
      obtain ⟨d', f', z', T'⟩ := hty.at e0
      have B1 := bound_ok (fun y _ => hget y) e1 hp1
      have B2 := bound_ok (fun y _ => hget y) e2 hp2
      refine ⟨sliced a l hh c ei.size, run_slice_to T.und (T'.run_sizeOf w) a xs.length c l hh c _ _ _ (run_bounds true xs.length c l hh _ _ B1 B2 h1 (Nat.le_trans h2 hl.1)), ?_⟩
      refine ls_sliced hx h3 h1 h2 (Nat.le_trans h2 hl.1) (Nat.le_refl _) (fun k => ?_)
      simp only [Bool.and_eq_true, Bool.or_eq_true, decide_eq_true_eq] at k
      have hc := hl.2.1 k.1
      refine ⟨?_, fun _ => k.1⟩
      rcases k.2 with k | k
      · rcases B2 with ⟨_, k2⟩ | ⟨_, _, k2, _⟩
        · omega
        · cases hi with
          | none => cases k2
          | some _ => cases k
      · omega
    · rename_i ei p' l q' hh mo e0 e1 e2
      split at h
      · rename_i km m em
        simp only [Option.some.injEq, Prod.mk.injEq] at h
        obtain ⟨rfl, rfl⟩ := h
        obtain ⟨hp1, hp2, hs', h1, h2, h3, h4⟩ := hp
        obtain ⟨d', f', z', T'⟩ := hty.at e0
        have B1 := bound_ok (fun y _ => hget y) e1 hp1
        have B2 := bound_ok (fun y _ => hget y) e2 hp2
        have rm := hget mo
        rw [em] at rm
        generalize hv : ρ mo = vm at rm
        cases rm
        simp only [Option.map_some, hv]
        have hcap := hl.1
        refine ⟨sliced a l hh m.toNat ei.size, run_slice_to T.und (T'.run_sizeOf w) a xs.length c l hh m.toNat _ _ _
          (run_bounds3 true xs.length c l hh m _ _ _ B1 B2 (by simpa using hs') h1 h2 (by omega)), ?_⟩
        refine ls_sliced hx h4 h1 (by omega) (by omega) (by omega) (fun k => ?_)
        simp only [Bool.and_eq_true, Bool.or_eq_true, Bool.not_eq_true', decide_eq_true_eq] at k
        refine ⟨by omega, fun hn => ?_⟩
        rcases k.1 with k1 | k1
        · rw [hn] at k1; cases k1
        · exact k1
      · cases h
    · cases h
  · rename_i e id off len cap hk
    have hd := T.slice (Option.some.inj hk)
    subst hd
    cases hx with | sl _ _ _ _ L a c hL hS =>
    split at h
    · rename_i ei bb p' l q' hh e0 eb e1 e2
      simp only [Option.some.injEq, Prod.mk.injEq] at h
      obtain ⟨rfl, rfl⟩ := h
      obtain ⟨hp1, hp2, h1, h2, h3⟩ := hp
      obtain ⟨d', f', z', T'⟩ := hty.at e0
      have B1 := bound_ok (fun y _ => hget y) e1 hp1
      have B2 := bound_ok (fun y _ => hget y) e2 hp2
      obtain ⟨L', hL', hst⟩ := hbox id bb eb
      obtain rfl : L = L' := by rw [hL] at hL'; exact Option.some.inj hL'
      obtain ⟨s1, s2, s3, s4, s5⟩ := hS
      refine ⟨sliced a l hh c ei.size, run_slice_to T.und (T'.run_sizeOf w) a len c l hh c _ _ _ (run_bounds true len c l hh _ _ B1 B2 h1 (by omega)), ?_⟩
      refine .sl id (off + l) (hh - l) (cap - l) L _ (c - l) hL ⟨by omega, by omega, fun k => by rw [s3 k], ?_, fun hc => ?_⟩
      · intro y hy
        split at hy
        · exact s4 y hy
        · cases a with
          | none => cases hy
          | some a =>
            have := s4 a rfl
            simp only [Option.map_some, Option.some.injEq] at hy
            subst hy
            unfold Addr.add
            split
            · exact this
            · rfl
      · obtain ⟨s6, s7, s8⟩ := s5 (by omega)
        refine ⟨s6, ?_, by rw [show off + l + (c - l) = off + c by omega]; exact s8⟩
        subst s7
        rw [if_neg (by omega)]
        simp only [Option.map_some, Addr.add_lit, ← h3, hst]
        rw [Nat.add_mul]
        congr 2
        omega
    · cases h
  · cases h
end

end Go.Av
