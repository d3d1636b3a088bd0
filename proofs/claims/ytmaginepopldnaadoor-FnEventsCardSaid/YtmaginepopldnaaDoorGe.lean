/- A small logic for code over pictures of values and boxes: part 5. -/
import Derived.Test.YtmaginepopldnaaDoorGd
import Derived.Carry
import Derived.WalkKit
import Derived.ProofKit
import Derived.ChangeOld
import Derived.SizedLaws
set_option linter.unusedSimpArgs false
set_option linter.unusedVariables false
namespace Go.Av
open Go.ChangeShapes Go.RowKit

def TyV (ty : TypeId → Option TI) (t : TypeId) (a : AV) : Prop := TyN ty 4 t a.cells ∧ a ≠ .undef ∧ ((∃ ti, ty t = some ti ∧ isAggK ti.k = true) → a = .agg a.cells) ∧ ((∃ ti, ty t = some ti ∧ isAggK ti.k = false) → a.cells = [a])

def Args (ty : TypeId → Option TI) : List TypeId → List AV → Prop
  | [], [] => True
  | t :: ts, a :: as => TyV ty t a ∧ Args ty ts as
  | _, _ => False

section
variable {H : Type} {enc : TypeId × Value → H} {P : Program} {ty : TypeId → Option TI} {W : World}

theorem arg_rep (hty : TyOk P ty) {t : TypeId} (hs : suppN ty t = true) {v : Value} {d : DataW H} {p : List MemPlace} {base : Nat} (h : DataW.Trod enc P W 0 (fun _ => true) true t v d p) (hok : Value.okWide P W .any base t v) :
    ∃ a : AV, Rep W NoLoc (fun b _ => b < W.heap.size) a v ∧ TyV ty t a := by
  obtain ⟨fuel, hf⟩ := h
  obtain ⟨l, g1, g2, _⟩ := read_rep hty 3 hs hf
  -- put together
  cases ht : ty t with
  | none => simp [suppN, suppD, leafs, ht] at hs
  | some ti =>
    obtain ⟨dd, f, z, T⟩ := hty.at ht
    have hund := T.und
    cases v with
    | agg cs =>
      refine ⟨.agg l, .agg l cs (by rw [← g2.1]; simp [Value.cells]) (fun i x v h1 h2 => g2.2 i x v h1 (by simpa [Value.cells] using h2)), g1, (by nofun), fun _ => rfl, ?_⟩
      rintro ⟨ti', e, h⟩
      exfalso
      rw [ht] at e
      cases e
      unfold Value.okWide at hok
      rw [hund] at hok
      rw [T.kind] at h
      cases dd <;> simp only [kOf, isAggK, Bool.true_eq_false] at h hok
      all_goals
        unfold Cell.okWide at hok
        split at hok <;> rename_i h1 h2 <;> first | (cases h2; done) | skip
        all_goals
          unfold Cell.ok at hok
          split at hok <;> rename_i h3 h4 <;> first | (cases h4; done) | exact hok.elim
    | _ =>
      have hnag : isAggK ti.k = false := by
        unfold Value.okWide at hok
        rw [hund] at hok
        rw [T.kind]
        cases dd <;> simp only [kOf, isAggK] at hok ⊢
        all_goals
          obtain ⟨cs, e, _⟩ := hok
          cases e
      have hl1 : l.length = 1 := by have := g2.1; simpa [Value.cells] using this.symm
      match l, hl1 with
      | [a], _ =>
        have hr := g2.2 0 a _ rfl rfl
        have hac : a.cells = [a] := by
          obtain ⟨ls, k1, k2, k3⟩ := g1
          have : ls.length = 1 := by simpa using k2.symm
          match ls, this with
          | [u], _ =>
            have k4 := k3 0 u a rfl rfl
            split at k4
            · obtain ⟨_, rfl, _⟩ := k4; rfl
            · obtain ⟨_, rfl⟩ := k4; rfl
            · obtain ⟨_, rfl, _⟩ := k4; rfl
            · obtain ⟨_, _, _, rfl, _⟩ := k4; rfl
            · exact k4.elim
        refine ⟨a, by simpa [Value.cells] using hr, by rw [hac]; exact g1, ?_, ?_, fun _ => hac⟩
        · rintro rfl
          obtain ⟨ls, k1, k2, k3⟩ := g1
          have : ls.length = 1 := by simpa using k2.symm
          match ls, this with
          | [u], _ =>
            have k4 := k3 0 u _ rfl rfl
            split at k4
            · obtain ⟨_, h, _⟩ := k4; cases h
            · obtain ⟨_, h⟩ := k4; cases h
            · obtain ⟨_, h, _⟩ := k4; cases h
            · obtain ⟨_, _, _, h, _⟩ := k4; cases h
            · exact k4.elim
        · rintro ⟨ti', e, h⟩
          rw [ht] at e
          cases e
          rw [hnag] at h
          cases h

theorem args_rep (hty : TyOk P ty) {base : Nat} : ∀ (ts : List TypeId) (vs : List Value) (ds : List (DataW H)) (p : List MemPlace), DataW.TrodAll enc P W 0 (fun _ => true) true ts vs ds p →
    (∀ (j : Nat) t v, ts[j]? = some t → vs[j]? = some v → Value.okWide P W .any base t v) → (∀ t ∈ ts, suppN ty t = true) → ∃ as : List AV, RepAll W NoLoc (fun b _ => b < W.heap.size) as vs ∧ Args ty ts as
  | [], [], [], _, _, _, _ => ⟨[], repAll_nil, trivial⟩
  | t :: ts, v :: vs, d :: ds, p, h, hok, hs => by
    obtain ⟨p1, p2, h1, h2, _⟩ := h
    obtain ⟨a, a1, a2⟩ := arg_rep hty (hs t (by simp)) h1 (hok 0 t v rfl rfl)
    obtain ⟨as, b1, b2⟩ := args_rep hty ts vs ds p2 h2 (fun j t v e1 e2 => hok (j + 1) t v (by simpa using e1) (by simpa using e2)) (fun t ht => hs t (by simp [ht]))
    exact ⟨a :: as, repAll_cons a1 b1, a2, b2⟩
  | [], [], _ :: _, _, h, _, _ => h.elim
  | [], _ :: _, _, _, h, _, _ => by cases h
  | _ :: _, [], _, _, h, _, _ => by cases h
  | _ :: _, _ :: _, [], _, h, _, _ => by cases h

theorem args_below (hl : laidOutB P = true) {W' : World} (hb : Below W.heap.size W W') : ∀ (ts : List TypeId) (vs : List Value) (ds : List (DataW H)) (p : List MemPlace), DataW.TrodAll enc P W 0 (fun _ => true) true ts vs ds p →
    (∀ t ∈ ts, P.readableRec t = true ∧ t < P.types.size) → (∀ x ∈ p, x.block < W.heap.size) → DataW.TrodAll enc P W' 0 (fun b => decide (b < W.heap.size)) true ts vs ds p
  | [], [], [], _, h, _, _ => h
  | t :: ts, v :: vs, d :: ds, p, h, hs, hlt => by
    obtain ⟨p1, p2, h1, h2, rfl⟩ := h
    exact ⟨p1, p2, Below.trod hl (hs t (by simp)).1 (hs t (by simp)).2 h1 hb (fun x hx => hlt x (by simp [hx])), args_below hl hb ts vs ds p2 h2 (fun t ht => hs t (by simp [ht])) (fun x hx => hlt x (by simp [hx])), rfl⟩
  | [], [], _ :: _, _, h, _, _ => h.elim
  | [], _ :: _, _, _, h, _, _ => by cases h
  | _ :: _, [], _, _, h, _, _ => by cases h
  | _ :: _, _ :: _, [], _, h, _, _ => by cases h

theorem trodAll_len : ∀ (ts : List TypeId) (vs : List Value) (ds : List (DataW H)) (p : List MemPlace), DataW.TrodAll enc P W 0 (fun _ => true) true ts vs ds p → ds.length = ts.length
  | [], [], [], _, _ => rfl
  | t :: ts, v :: vs, d :: ds, p, h => by
    obtain ⟨p1, p2, _, h2, _⟩ := h
    simp [trodAll_len ts vs ds p2 h2]
  | [], [], _ :: _, _, h => h.elim
  | [], _ :: _, _, _, h => by cases h
  | _ :: _, [], _, _, h => by cases h
  | _ :: _, _ :: _, [], _, h => by cases h
end

end Go.Av
namespace Go.Av

abbrev sl1 (xs : List AV) : AV := .ls 1 true false xs

def bA (bs : List UInt8) : List AV := bs.map fun b => .int .u8 (b.toNat : Int)
theorem bA_length (bs : List UInt8) : (bA bs).length = bs.length := by simp [bA]
theorem bA_getD (bs : List UInt8) {k : Nat} (h : k < bs.length) : (bA bs).getD ((k : Int)).toNat .undef = .int .u8 ((bs.getD k 0).toNat : Int) := by
  simp [bA, List.getD, h]

theorem pure_bytes (n e : Bool) (sz : Nat) (bs : List UInt8) : Pure (.ls sz n e (bA bs)) := pure_ls fun x hx y hy => by
  simp only [bA, List.mem_map] at hx
  obtain ⟨b, _, rfl⟩ := hx
  simp only [AV.cells, List.mem_cons, List.not_mem_nil, or_false] at hy
  subst hy
  exact pure_int _ _

end Go.Av
namespace Go.Av

theorem T_drawAll {P : Program} {ty : TypeId → Option TI} (hty : TyOk P ty) (hmix : P.follows .mixedOrders = true) {G : Gh} {Q : Exit → St → Prop} {id : Nat} {l : List Oper} {st : St} (hD : drawOk l l.length = true)
    (h : WX true P ty G.n l l st (Q .normal)) : T P G (.region id l.toArray true) st Q := by
  refine T_draw hty hmix l.length hD (Nat.le_refl _) ?_
  rw [List.take_length, List.drop_length]
  exact h

theorem bytes_of {ty : TypeId → Option TI} {e : TypeId} {ei : TI} {n : Nat} (hl : leafs ty 8 e = some [e]) (hk : (ty e).map TI.k = some (.int .u8)) (ha : isAggK ei.k = false) : ∀ (xs : List AV),
    (∀ x ∈ xs, TyN ty (n + 1) e x.cells ∧ x = (if isAggK ei.k then .agg x.cells else x.cells.getD 0 .undef)) → ∃ bs : List UInt8, xs = bA bs
  | [], _ => ⟨[], rfl⟩
  | x :: xs, h => by
    obtain ⟨bs, rfl⟩ := bytes_of hl hk ha xs (fun y hy => h y (by simp [hy]))
    obtain ⟨⟨ls, h1, h2, h3⟩, h4⟩ := h x (by simp)
    rw [hl] at h1
    obtain rfl := Option.some.inj h1
    obtain ⟨c, hc⟩ : ∃ c, x.cells = [c] := List.length_eq_one_iff.1 (by simpa using h2)
    rw [hc] at h3
    have h5 := h3 0 e c rfl rfl
    rw [hk] at h5
    obtain ⟨i, rfl, h6, h7⟩ := h5
    rw [hc, ha] at h4
    simp only [Bool.false_eq_true, if_false, List.getD_cons_zero] at h4
    subst h4
    have h6' : 0 ≤ i := h6
    have h7' : i ≤ 255 := h7
    refine ⟨UInt8.ofNat i.toNat :: bs, ?_⟩
    simp only [bA, List.map_cons, List.cons.injEq, and_true, AV.int.injEq, true_and]
    simp
    omega

end Go.Av
