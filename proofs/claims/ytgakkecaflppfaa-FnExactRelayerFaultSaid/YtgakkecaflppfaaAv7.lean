/- Operations that only compute or read, the rest: conversions, slices, parts, elements, loads, literals. -/
import Derived.Test.YtgakkecaflppfaaAv6
import Derived.Lib.ConvBytes
import Derived.Laws.BytesString
namespace Go.Av

section
variable {P : Program} {ty : TypeId → Option TI} {G : Gh} {bx : List (Nat × Option Box)} {nx : Nat} {φ : Nat → Option Loc} {w : World}

theorem Rep.ls_cells {ok : Nat → Nat → Prop} {st : Nat} {n e : Bool} {xs : List AV} {a : Option Addr} {l c : Nat} (h : Rep w φ ok (.ls st n e xs) (.slice a l c)) :
    l = xs.length ∧ LsOk n e xs.length a c ∧ ∀ b o, a = some ⟨b, o, none⟩ → ∀ (i : Nat) (x : AV) (j : Nat) (y : AV), xs[i]? = some x → x.cells[j]? = some y →
      ∃ v, w.cell? ⟨b, o + i * st + j, none⟩ = some v ∧ ok b (o + i * st + j) ∧ Rep w φ ok y v := by
  cases h with | ls _ _ _ _ a c vs hl hn hc hr =>
  refine ⟨rfl, hl, fun b o ha i x j y hx hy => ?_⟩
  have hi := (List.getElem?_eq_some_iff.1 hx).1
  have hj := (List.getElem?_eq_some_iff.1 hy).1
  rw [(hn i x hx).1] at hj
  exact ⟨vs i j, (hc b o ha i j hi hj).1, (hc b o ha i j hi hj).2, hr i x j y hx hy⟩

theorem Rep.ls_len {ok : Nat → Nat → Prop} {st : Nat} {n e : Bool} {xs : List AV} {v : Value} (h : Rep w φ ok (.ls st n e xs) v) (i : Nat) (x : AV) (hx : xs[i]? = some x) : okCells st x := by
  cases h with | ls _ _ _ _ a c vs hl hn hc hr => exact hn i x hx

theorem Rep.ls_val {ok : Nat → Nat → Prop} {st : Nat} {n e : Bool} {xs : List AV} {v : Value} (h : Rep w φ ok (.ls st n e xs) v) : ∃ a c, v = .slice a xs.length c := by
  cases h with | ls _ _ _ _ a c vs hl hn hc hr => exact ⟨a, c, rfl⟩

/-- A list is told when its cells are. -/
theorem Rep.mk_ls {ok : Nat → Nat → Prop} {st : Nat} {n e : Bool} {xs : List AV} {a : Option Addr} {c : Nat} (hl : LsOk n e xs.length a c)
    (hn : ∀ (i : Nat) (x : AV), xs[i]? = some x → okCells st x)
    (h : ∀ b o, a = some ⟨b, o, none⟩ → ∀ (i : Nat) (x : AV) (j : Nat) (y : AV), xs[i]? = some x → x.cells[j]? = some y →
      ∃ v, w.cell? ⟨b, o + i * st + j, none⟩ = some v ∧ ok b (o + i * st + j) ∧ Rep w φ ok y v) : Rep w φ ok (.ls st n e xs) (.slice a xs.length c) := by
  by_cases hx0 : xs = []
  · subst hx0
    exact .ls st n e [] a c (fun _ _ => Go.undef) hl hn (fun b o h i j hi => absurd hi (by simp)) (fun i x j y h => by simp at h)
  · obtain ⟨b, o, rfl⟩ := hl.addr (List.length_pos_iff.2 hx0)
    refine .ls st n e xs _ c (fun i j => (w.cell? ⟨b, o + i * st + j, none⟩).getD Go.undef) hl hn ?_ ?_
    · intro b' o' he i j hi hj
      simp only [Option.some.injEq, Addr.mk.injEq] at he
      obtain ⟨rfl, rfl, _⟩ := he
      have hx : xs[i]? = some xs[i] := List.getElem?_eq_getElem hi
      have hjl : j < (xs[i]).cells.length := by rw [(hn i _ hx).1]; exact hj
      obtain ⟨v, h1, h2, _⟩ := h b o rfl i _ j _ hx (List.getElem?_eq_getElem hjl)
      exact ⟨by rw [h1]; rfl, h2⟩
    · intro i x j y hx hy
      obtain ⟨v, h1, _, h3⟩ := h b o rfl i x j y hx hy
      simpa [h1] using h3

theorem fold_push : ∀ (ns : List Int) (s : ByteArray), (ns.foldl (fun r n => r.push (UInt8.ofNat n.toNat)) s).data.toList = s.data.toList ++ ns.map fun n => UInt8.ofNat n.toNat
  | [], s => by simp
  | n :: ns, s => by
    rw [List.foldl_cons, fold_push ns]
    simp [ByteArray.push]

theorem bytes_fold (ns : List Int) : ns.foldl (fun r n => r.push (UInt8.ofNat n.toNat)) ByteArray.empty = ⟨(ns.map fun n => UInt8.ofNat n.toNat).toArray⟩ := by
  have h := fold_push ns ByteArray.empty
  apply ByteArray.ext
  apply Array.ext'
  rw [h]
  rfl

theorem bytes_map {xs : List AV} (h : ∀ x ∈ xs, IsByte x) : xs = (xs.map AV.toI).map (AV.int .u8) := by
  rw [List.map_map]
  have : xs = xs.map id := by simp
  conv => lhs; rw [this]
  apply List.map_congr_left
  intro x hx
  exact h x hx

theorem rep_bytes (hrel : Rel G bx nx φ w) (e : TypeId) (s : ByteArray) :
    Rep (Lib.bytesWorld w e s) φ (OK G bx φ (Lib.bytesWorld w e s)) (.ls 1 false false (listOf s)) (.slice (some ⟨w.heap.size, 0, none⟩) s.size (grownCap w s.size 0 e)) := by
  have hll : (listOf s).length = s.size := by simp [listOf]
  have hcap : s.size ≤ grownCap w s.size 0 e := by simp [grownCap, Question.cut]
  have hL : LsOk false false (listOf s).length (some ⟨w.heap.size, 0, none⟩) (grownCap w s.size 0 e) :=
    ⟨by rw [hll]; exact hcap, fun h => (by cases h), fun h => (by cases h), fun _ => (by nofun), fun _ => ⟨_, _, rfl⟩⟩
  have key : Rep (Lib.bytesWorld w e s) φ (OK G bx φ (Lib.bytesWorld w e s)) (.ls 1 false false (listOf s)) (.slice (some ⟨w.heap.size, 0, none⟩) (listOf s).length (grownCap w s.size 0 e)) := by
    refine Rep.mk_ls hL ?_ ?_
    · intro i x hx
      simp only [listOf, List.getElem?_map, Option.map_eq_some_iff] at hx
      obtain ⟨_, _, rfl⟩ := hx
      exact ⟨rfl, by simp [AV.cells, AV.cellOk]⟩
    · intro b o hbo i x j y hx hy
      simp only [Option.some.injEq, Addr.mk.injEq] at hbo
      obtain ⟨rfl, rfl, _⟩ := hbo
      have hi : i < s.size := by rw [← hll]; exact (List.getElem?_eq_some_iff.1 hx).1
      simp only [listOf, List.getElem?_map, Option.map_eq_some_iff] at hx
      obtain ⟨q, hq, rfl⟩ := hx
      have hj : j = 0 := by
        have := (List.getElem?_eq_some_iff.1 hy).1
        simp [AV.cells] at this
        exact this
      subst hj
      simp [AV.cells] at hy
      subst hy
      refine ⟨_, by rw [Nat.mul_one, Nat.add_zero, Nat.zero_add]; exact Lib.bytesWorld_cell w e s i hi, hrel.ok_new (Nat.le_refl _) (by rw [Lib.bytesWorld_size]; omega), ?_⟩
      have hq' : s.data[i]? = some q := by simpa using hq
      simp only [List.getD_eq_getElem?_getD, Array.getElem?_toList, hq', Option.getD_some]
      exact .int _ _
  rw [hll] at key
  exact key

theorem convVal_ok (hty : TyOk P ty) (hrel : Rel G bx nx φ w) {src dst : TypeId} {x : AV} {u : Value} {p : Prop} {r : AV}
    (hx : Rep w φ (OK G bx φ w) x u) (h : convVal ty src dst x = some (p, r)) (hp : p) :
    ∃ v w', (convert src dst u).run P w = .ok v w' ∧ Ext w w' ∧ Rep w' φ (OK G bx φ w') r v := by
  unfold convVal at h
  cases hs : ty src with
  | none => simp [hs] at h
  | some si =>
  cases hd : ty dst with
  | none => simp [hs, hd] at h
  | some di =>
  obtain ⟨d1, f1, z1, T1⟩ := hty.at hs
  obtain ⟨d2, f2, z2, T2⟩ := hty.at hd
  simp only [hs, hd, Option.map_some] at h
  split at h
  · rename_i k n hk _
    simp only [Option.some.injEq, Prod.mk.injEq] at h
    obtain ⟨rfl, rfl⟩ := h
    cases hx
    have hd2 := T2.int (Option.some.inj (by assumption))
    subst hd2
    refine ⟨_, w, ?_, .refl w, .int _ _⟩
    simp only [convert, Sem.run_bind, T1.run_und, T2.run_und, Result.andThen_ok]
    simp only [Conv.intToInt, Sem.run_pure]
  · rename_i hk1 hk2 _
    simp only [Option.some.injEq, Prod.mk.injEq] at h
    obtain ⟨rfl, rfl⟩ := h
    cases hx
    have e1 := T1.str (Option.some.inj (by assumption))
    have e2 := T2.str (Option.some.inj (by assumption))
    subst e1; subst e2
    refine ⟨_, w, ?_, .refl w, .str _⟩
    simp only [convert, Sem.run_bind, T1.run_und, T2.run_und, Result.andThen_ok, Sem.run_pure]
  · rename_i e st n ex xs hk1 hk2
    have e1 := T1.slice (Option.some.inj (by assumption))
    have e2 := T2.str (Option.some.inj (by assumption))
    subst e1; subst e2
    cases he : ty e with
    | none => simp [he] at h
    | some ei =>
      obtain ⟨d3, f3, z3, T3⟩ := hty.at he
      simp only [he, Option.map_some] at h
      split at h
      · rename_i hk3
        simp only [Option.some.injEq, Prod.mk.injEq] at h
        obtain ⟨rfl, rfl⟩ := h
        have e3 := T3.int (Option.some.inj (by assumption))
        subst e3
        obtain ⟨a, c, rfl⟩ := hx.ls_val
        obtain ⟨_, hl, hcell⟩ := hx.ls_cells
        have hlen := hx.ls_len
        refine ⟨.string (bytesOf xs), w, ?_, .refl w, .str _⟩
        rw [run_convert_bytes_string w src dst e a _ c T1.und T3.und T2.und]
        obtain ⟨hst, hb⟩ := hp
        by_cases hx0 : xs = []
        · subst hx0
          cases a <;> simp [Conv.bytesToString, bytesOf] <;> rfl
        · obtain ⟨b, o, rfl⟩ := hl.addr (List.length_pos_iff.2 hx0)
          rw [run_bytesToString w ⟨b, o, none⟩ xs.length c (xs.map AV.toI), bytes_fold]
          · simp [bytesOf, Function.comp_def]
          · have := run_loadCells_list (P := P) w ⟨b, o, none⟩ ((xs.map AV.toI).map (Value.int .u8)) (fun j v hv => by
              simp only [List.getElem?_map, Option.map_eq_some_iff] at hv
              obtain ⟨_, ⟨x, hx', rfl⟩, rfl⟩ := hv
              have hbx := hb x (List.mem_of_getElem? hx')
              have hc1 : x.cells[0]? = some x := by rw [hbx]; rfl
              rcases hst with hst | hst
              · obtain ⟨v, h1, _, h3⟩ := hcell b o rfl j x 0 x hx' hc1
                rw [hbx] at h3
                cases h3
                rw [hst] at h1
                rw [Addr.add_lit]
                simpa using h1
              · subst hst; simp at hx')
            simpa using this
      · cases h
  · rename_i e s hk1 hk2
    have e1 := T1.str (Option.some.inj (by assumption))
    have e2 := T2.slice (Option.some.inj (by assumption))
    subst e1; subst e2
    cases he : ty e with
    | none => simp [he] at h
    | some ei =>
      obtain ⟨d3, f3, z3, T3⟩ := hty.at he
      simp only [he, Option.map_some] at h
      split at h
      · rename_i hk3
        simp only [Option.some.injEq, Prod.mk.injEq] at h
        obtain ⟨rfl, rfl⟩ := h
        have e3 := T3.int (Option.some.inj (by assumption))
        subst e3
        cases hx
        have hE : Ext w (Lib.bytesWorld w e s) := ⟨by simp [Lib.bytesWorld, World.freeze, World.alloc, World.drew, -World.alloc_eq, -World.drew_eq], by simp [Lib.bytesWorld, World.freeze, World.alloc, World.drew, -World.alloc_eq, -World.drew_eq],
          by simp [Lib.bytesWorld, World.freeze, World.alloc, World.drew, -World.alloc_eq, -World.drew_eq], by rw [Lib.bytesWorld_size]; omega, fun b hb => Lib.bytesWorld_at_old w e s b hb⟩
        exact ⟨_, _, Lib.run_convert_string_bytes w src dst e s T1.und T2.und T3.und, hE, rep_bytes hrel e s⟩
      · cases h
  · cases h
end

end Go.Av
