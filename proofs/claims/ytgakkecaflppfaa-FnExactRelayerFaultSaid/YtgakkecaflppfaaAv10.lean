/- What opVal tells, the machine makes. -/
import Derived.Test.YtgakkecaflppfaaAv9
namespace Go.Av

section
variable {P : Program} {ty : TypeId → Option TI} {G : Gh} {bx : List (Nat × Option Box)} {nx : Nat} {φ : Nat → Option Loc} {w : World}

theorem Yld.mk {ρ : Operand → Value} {dst : Option Tmp} {op : Op} {type : TypeId} {pos : String} {after : Array Edge} {guard : Option (Nat × Bool)} {r : AV} {s : Sem Value} {v : Value}
    (he : execOp ρ ⟨dst, op, type, pos, after, guard⟩ = (do pure (.value (← s)))) (h : s.run P w = .ok v w) (k : Rep w φ (OK G bx φ w) r v) : Yld P ρ ⟨dst, op, type, pos, after, guard⟩ G bx φ w r := by
  refine ⟨v, w, ?_, .refl w, k⟩
  rw [he]
  simp [h]

theorem Yld.mk' {ρ : Operand → Value} {dst : Option Tmp} {op : Op} {type : TypeId} {pos : String} {after : Array Edge} {guard : Option (Nat × Bool)} {r : AV} {s : Sem Value} {v : Value} {w' : World}
    (he : execOp ρ ⟨dst, op, type, pos, after, guard⟩ = (do pure (.value (← s)))) (h : s.run P w = .ok v w') (hE : Ext w w') (k : Rep w' φ (OK G bx φ w') r v) : Yld P ρ ⟨dst, op, type, pos, after, guard⟩ G bx φ w r := by
  refine ⟨v, w', ?_, hE, k⟩
  rw [he]
  simp [h]

theorem idx_some {x : AV} {i : Int} (h : idx x = some i) : ∃ k, x = .int k i := by
  unfold idx at h
  split at h
  · rename_i k n; obtain rfl := Option.some.inj h; exact ⟨k, rfl⟩
  · cases h

theorem Rep.int_inv {ok : Nat → Nat → Prop} {k : IntKind} {n : Int} {v : Value} (h : Rep w φ ok (.int k n) v) : v = .int k n := by cases h; rfl
theorem Rep.bool_inv {ok : Nat → Nat → Prop} {b : Bool} {v : Value} (h : Rep w φ ok (.bool b) v) : v = .bool b := by cases h; rfl
theorem Rep.str_inv {ok : Nat → Nat → Prop} {b : ByteArray} {v : Value} (h : Rep w φ ok (.str b) v) : v = .string b := by cases h; rfl

theorem opVal_ok (hty : TyOk P ty) (hrel : Rel G bx nx φ w) {get : Operand → AV} {ρ : Operand → Value} (hget : ∀ x, Rep w φ (OK G bx φ w) (get x) (ρ x)) {o : Oper} {p : Prop} {r : AV}
    (h : opVal ty bx get o.op = some (p, r)) (hp : p) : Yld P ρ o G bx φ w r := by
  obtain ⟨dst, op, type, pos, after, guard⟩ := o
  cases op with
  | move x =>
    simp only [opVal, Option.some.injEq, Prod.mk.injEq] at h
    obtain ⟨rfl, rfl⟩ := h
    exact Yld.same (by simp [execOp]) (hget x)
  | assign x =>
    simp only [opVal, Option.some.injEq, Prod.mk.injEq] at h
    obtain ⟨rfl, rfl⟩ := h
    exact Yld.same (by simp [execOp]) (hget x)
  | pick c a b =>
    simp only [opVal] at h
    split at h
    · rename_i t hc
      simp only [Option.some.injEq, Prod.mk.injEq] at h
      obtain ⟨rfl, rfl⟩ := h
      have h1 := hget c
      rw [hc] at h1
      have h2 := h1.bool_inv
      refine Yld.same (v := if t then ρ a else ρ b) (by simp [execOp, h2, asBool]) ?_
      cases t
      · exact hget b
      · exact hget a
    · cases h
  | build t parts =>
    simp only [opVal] at h
    split at h
    · rename_i ti ht
      split at h
      · rename_i fs hk
        split at h
        · rename_i hall
          cases hf : fillS ty fs (parts.toList.map fun p => (p.1, get p.2)) ti.zero with
          | none => simp [hf] at h
          | some q =>
            obtain ⟨q, cs⟩ := q
            simp only [hf, Option.map_some, Option.some.injEq, Prod.mk.injEq] at h
            obtain ⟨rfl, rfl⟩ := h
            obtain ⟨v, h1, h2⟩ := build_ok (P := P) hty ht hk hall (us := parts.toList.map fun p => (p.1, ρ p.2)) (by simp) (fun j x u hx hu => by
              rw [List.getElem?_map] at hx hu
              simp only [Option.map_eq_some_iff] at hx hu
              obtain ⟨a, ha, rfl⟩ := hx
              obtain ⟨b, hb, rfl⟩ := hu
              rw [ha] at hb
              obtain rfl := Option.some.inj hb
              exact ⟨rfl, hget _⟩) hf hp
            refine Yld.mk rfl (v := v) ?_ h2
            rw [← h1]
            congr 2
            apply Array.ext'
            simp
        · cases h
      · cases h
    · cases h
  | buildSlice t len parts =>
    simp only [opVal] at h
    split at h
    · rename_i e hk
      cases ht : ty t with
      | none => simp [ht] at hk
      | some ti =>
      simp only [ht, Option.map_some, Option.some.injEq] at hk
      split at h
      · rename_i ei hei
        simp only [Option.some.injEq, Prod.mk.injEq] at h
        obtain ⟨rfl, rfl⟩ := h
        obtain ⟨h1, h2, h3, h4⟩ := hp
        obtain ⟨v, w', h5, h6, h7⟩ := buildSlice_ok (P := P) hty hrel ht hk hei (us := parts.toList.map fun p => (p.1, ρ p.2)) (by simp) len (fun j x u hx hu => by
              rw [List.getElem?_map] at hx hu
              simp only [Option.map_eq_some_iff] at hx hu
              obtain ⟨a, ha, rfl⟩ := hx
              obtain ⟨b, hb, rfl⟩ := hu
              rw [ha] at hb
              obtain rfl := Option.some.inj hb
              exact ⟨rfl, hget _⟩) h1 h2 h3 h4
        refine Yld.mk' rfl (v := v) (w' := w') ?_ h6 h7
        rw [← h5]
        congr 2
        apply Array.ext'
        simp
      · cases h
    · cases h
  | load t a =>
    simp only [opVal] at h
    split at h
    · rename_i ti id e k ht ha
      split at h
      · rename_i b hb
        simp only [Option.some.injEq, Prod.mk.injEq] at h
        obtain ⟨rfl, rfl⟩ := h
        have hu := hget a
        rw [ha] at hu
        obtain ⟨v, h1, h2⟩ := load_ok (P := P) hty hrel ht hb hu hp.1 hp.2
        exact Yld.mk rfl h1 h2
      · cases h
    · rename_i ti cs ht ha
      simp only [Option.some.injEq] at h
      have hu := hget a
      rw [ha] at hu
      have hp' : (cut true ti cs 0).1 := by rw [h]; exact hp
      obtain ⟨v, h1, h2⟩ := load_vp_ok (P := P) hty ht hu hp'
      rw [h] at h2
      exact Yld.mk rfl h1 h2
    · cases h
  | nilCheck x =>
    simp only [opVal] at h
    have hu := hget x
    split at h <;> simp only [Option.some.injEq, Prod.mk.injEq, reduceCtorEq] at h <;> obtain ⟨rfl, rfl⟩ := h <;> rename_i hx <;> rw [hx] at hu <;> generalize hv : ρ x = v at hu
    · cases hu with | ptr _ _ _ L hL hw => exact Yld.same (by simp [execOp, hv]) (.ptr _ _ _ L hL hw)
    · cases hu with | vp b o _ vs hk hc hr => exact Yld.same (by simp [execOp, hv]) (.vp b o _ vs hk hc hr)
    · cases hu with | fn _ _ vs hl hr => exact Yld.same (by simp [execOp, hv]) (.fn _ _ vs hl hr)
  | binOp op t x y yt =>
    simp only [opVal] at h
    obtain ⟨v, h1, h2⟩ := binVal_ok (P := P) (X := x) (Y := y) hty (hget x) (hget y) h hp
    exact Yld.mk rfl h1 h2
  | unOp op t x =>
    simp only [opVal] at h
    obtain ⟨v, h1, h2⟩ := unVal_ok (P := P) (hget x) h
    exact Yld.mk rfl h1 h2
  | convert s d x =>
    simp only [opVal] at h
    obtain ⟨v, w', h1, h2, h3⟩ := convVal_ok (P := P) hty hrel (hget x) h hp
    exact Yld.mk' rfl h1 h2 h3
  | makeFunc f first caps =>
    cases f with
    | func f =>
      simp only [opVal] at h
      split at h
      · rename_i hf
        simp only [Option.some.injEq, Prod.mk.injEq] at h
        obtain ⟨rfl, rfl⟩ := h
        obtain rfl : first = #[] := by simpa using hf
        refine Yld.same (v := .func (.func f) #[] (caps.map ρ)) (by simp [execOp, Instr.makeFunc]) (.fn f _ _ (by simp) (fun i x v hx hv => ?_))
        simp only [List.getElem?_map, Array.getElem?_toList, Option.map_eq_some_iff, Array.getElem?_map] at hx hv
        obtain ⟨a, ha, rfl⟩ := hx
        obtain ⟨b, hb, rfl⟩ := hv
        rw [ha] at hb
        obtain rfl := Option.some.inj hb
        exact hget a
      · cases h
    | _ => simp [opVal] at h
  | slice t x lo hi mx =>
    simp only [opVal] at h
    obtain ⟨v, h1, h2⟩ := sliceVal_ok (P := P) hty hrel.box_st hget (hget x) h hp
    exact Yld.mk rfl h1 h2
  | fieldAddr s x i =>
    simp only [opVal] at h
    split at h
    · rename_i fs hk
      cases ht : ty s with
      | none => simp [ht] at hk
      | some si =>
      simp only [ht, Option.map_some, Option.some.injEq] at hk
      split at h
      · rename_i off ft hf
        split at h
        · rename_i fi hfi
          split at h
          · cases h
          · rename_i hne
            have hu := hget x
            split at h <;> simp only [Option.some.injEq, Prod.mk.injEq, reduceCtorEq] at h <;> obtain ⟨rfl, rfl⟩ := h <;> rename_i hx <;> rw [hx] at hu <;> generalize hv : ρ x = v at hu
            · cases hu with | ptr _ _ _ L hL hw =>
              refine Yld.mk rfl (v := .pointer (some ⟨L.blk, L.base + _ * L.st + _ + off, none⟩)) (by rw [hv]; exact fieldAddr_ok hty ht hk hf hfi hne _ _) ?_
              rw [Nat.add_assoc]
              exact .ptr _ _ _ L hL hw
            · cases hu with | vp b o _ vs hk' hc hr =>
              exact Yld.mk rfl (by rw [hv]; exact fieldAddr_ok hty ht hk hf hfi hne _ _) (vp_drop (.vp b o _ vs hk' hc hr))
        · cases h
      · cases h
    · cases h
  | field s x i =>
    simp only [opVal] at h
    split at h
    · rename_i fs cs hk hx
      cases ht : ty s with
      | none => simp [ht] at hk
      | some si =>
      simp only [ht, Option.map_some, Option.some.injEq] at hk
      split at h
      · rename_i off ft hf
        cases hfi : ty ft with
        | none => simp [hfi] at h
        | some fi =>
          simp only [hfi, Option.map_some, Option.some.injEq] at h
          have hu := hget x
          rw [hx] at hu
          have hp' : (cut false fi cs off).1 := by rw [h]; exact hp
          obtain ⟨v, h1, h2⟩ := field_ok (P := P) hty ht hk hf hfi hu hp'
          rw [h] at h2
          exact Yld.mk rfl h1 h2
      · cases h
    · cases h
  | indexAddr t x i =>
    simp only [opVal] at h
    split at h
    · rename_i e iv hk hi
      cases ht : ty t with
      | none => simp [ht] at hk
      | some ti =>
      simp only [ht, Option.map_some, Option.some.injEq] at hk
      obtain ⟨ik, hik⟩ := idx_some hi
      have hi' := hget i
      rw [hik] at hi'
      have hi2 := hi'.int_inv
      have hu := hget x
      split at h
      · rename_i ei st n ex xs hei hx
        simp only [Option.some.injEq, Prod.mk.injEq] at h
        obtain ⟨rfl, rfl⟩ := h
        obtain ⟨h0, h1, h2⟩ := hp
        rw [hx] at hu
        generalize hv : ρ x = v at hu
        obtain ⟨a, c, rfl⟩ := hu.ls_val
        obtain ⟨_, hl, hc⟩ := hu.ls_cells
        have hlen := hu.ls_len
        have hit : iv.toNat < xs.length := by omega
        obtain ⟨b, o', rfl⟩ := hl.addr (by omega)
        refine Yld.mk rfl (by rw [hv, hi2]; exact index_slice_ok hty ht hk hei b o' xs.length c h0 h1) ?_
        have hxi := getElem?_getD AV.undef hit
        refine .vp b _ _ (fun j => (w.cell? ⟨b, o' + iv.toNat * ei.size + j, none⟩).getD Go.undef) (hlen _ _ hxi).2 (fun j hj => ?_) (fun j y hy => ?_)
        · obtain ⟨v, e1, e2, _⟩ := hc b o' rfl _ _ j _ hxi (List.getElem?_eq_getElem hj)
          rw [h2] at e1 e2
          exact ⟨by rw [e1]; rfl, e2⟩
        · obtain ⟨v, e1, _, e3⟩ := hc b o' rfl _ _ j y hxi hy
          rw [h2] at e1
          simpa [e1] using e3
      · rename_i ei id off len cap hei hx
        split at h
        · rename_i bb hb
          simp only [Option.some.injEq, Prod.mk.injEq] at h
          obtain ⟨rfl, rfl⟩ := h
          obtain ⟨h0, h1, h2⟩ := hp
          rw [hx] at hu
          obtain ⟨L, hL, hst⟩ := hrel.box_st id bb hb
          generalize hv : ρ x = v at hu
          cases hu with | sl _ _ _ _ L' a c hL' hS =>
          obtain rfl : L = L' := by rw [hL] at hL'; exact Option.some.inj hL'
          obtain ⟨s1, s2, s3, s4, s5⟩ := hS
          obtain ⟨s6, s7, s8⟩ := s5 (by omega)
          subst s7
          refine Yld.mk rfl (by rw [hv, hi2]; exact index_slice_ok hty ht hk hei _ _ len c h0 h1) ?_
          rw [show L.base + off * L.st + iv.toNat * ei.size = L.base + (off + iv.toNat) * L.st + 0 by rw [← h2, hst, Nat.add_mul]; omega]
          exact .ptr id (off + iv.toNat) 0 L hL s6
        · cases h
      · cases h
    · rename_i n e iv hk hi
      cases ht : ty t with
      | none => simp [ht] at hk
      | some ti =>
      simp only [ht, Option.map_some, Option.some.injEq] at hk
      obtain ⟨ik, hik⟩ := idx_some hi
      have hi' := hget i
      rw [hik] at hi'
      have hi2 := hi'.int_inv
      have hu := hget x
      split at h
      · rename_i ei id e' k hei hx
        simp only [Option.some.injEq, Prod.mk.injEq] at h
        obtain ⟨rfl, rfl⟩ := h
        rw [hx] at hu
        generalize hv : ρ x = v at hu
        cases hu with | ptr _ _ _ L hL hw =>
        refine Yld.mk rfl (by rw [hv, hi2]; exact index_array_ok hty ht hk hei _ _ hp.1 hp.2) ?_
        rw [Nat.add_assoc]
        exact .ptr _ _ _ L hL hw
      · rename_i ei cs hei hx
        simp only [Option.some.injEq, Prod.mk.injEq] at h
        obtain ⟨rfl, rfl⟩ := h
        rw [hx] at hu
        generalize hv : ρ x = v at hu
        cases hu with | vp b o _ vs hk' hc hr =>
        exact Yld.mk rfl (by rw [hv, hi2]; exact index_array_ok hty ht hk hei _ _ hp.1 hp.2) (vp_drop (.vp b o _ vs hk' hc hr))
      · cases h
    · cases h
  | index t x i =>
    simp only [opVal] at h
    split at h
    · rename_i n e cs iv hk hx hi
      cases ht : ty t with
      | none => simp [ht] at hk
      | some ti =>
      simp only [ht, Option.map_some, Option.some.injEq] at hk
      obtain ⟨ik, hik⟩ := idx_some hi
      have hi' := hget i
      rw [hik] at hi'
      have hi2 := hi'.int_inv
      have hu := hget x
      rw [hx] at hu
      cases hei : ty e with
      | none => simp [hei] at h
      | some ei =>
        simp only [hei, Option.map_some, Option.some.injEq, Prod.mk.injEq] at h
        obtain ⟨rfl, rfl⟩ := h
        obtain ⟨v, h1, h2⟩ := index_arr_ok (P := P) hty ht hk hei hu (k := ik) hp.1 hp.2.1 hp.2.2
        exact Yld.mk rfl (by rw [hi2]; exact h1) h2
    · rename_i s iv hk hx hi
      cases ht : ty t with
      | none => simp [ht] at hk
      | some ti =>
      simp only [ht, Option.map_some, Option.some.injEq] at hk
      obtain ⟨ik, hik⟩ := idx_some hi
      have hi' := hget i
      rw [hik] at hi'
      have hi2 := hi'.int_inv
      have hu := hget x
      rw [hx] at hu
      have hu2 := hu.str_inv
      simp only [Option.some.injEq, Prod.mk.injEq] at h
      obtain ⟨rfl, rfl⟩ := h
      exact Yld.mk rfl (by rw [hi2, hu2]; exact index_str_ok hty ht hk hp.1 hp.2) (.int _ _)
    · cases h
  | extract x i =>
    simp only [opVal] at h
    split at h
    · rename_i vs hx
      simp only [Option.some.injEq, Prod.mk.injEq] at h
      obtain ⟨rfl, rfl⟩ := h
      have hu := hget x
      rw [hx] at hu
      generalize hv : ρ x = v at hu
      cases hu with | tup _ us hl hr =>
      have hg : us[i]? = some us[i] := Array.getElem?_eq_getElem (by omega)
      exact Yld.mk rfl (v := us[i]) (by rw [hv]; simp [Instr.extract, hg]) (hr i _ _ (getElem?_getD _ hp) hg)
    · cases h
  | call c =>
    obtain ⟨cal, args, argTypes⟩ := c
    cases cal with
    | builtin b =>
      obtain ⟨args⟩ := args
      obtain ⟨argTypes⟩ := argTypes
      simp only [opVal] at h
      split at h
      · rename_i x t
        cases ht : ty t with
        | none => simp [ht] at h
        | some ti =>
        simp only [ht, Option.map_some] at h
        obtain ⟨d, f, z, T⟩ := hty.at ht
        have hu := hget x
        split at h
        · rename_i s hk hx
          simp only [Option.some.injEq, Prod.mk.injEq] at h
          obtain ⟨rfl, rfl⟩ := h
          rw [hx] at hu
          have hu2 := hu.str_inv
          have hd := T.str (Option.some.inj hk)
          subst hd
          exact Yld.same (by simp [execOp, resolve, invoke, builtin, Builtin.len_, run_underlying T.und, hu2, goInt]) (.int _ _)
        · rename_i e st n ex xs hk hx
          simp only [Option.some.injEq, Prod.mk.injEq] at h
          obtain ⟨rfl, rfl⟩ := h
          rw [hx] at hu
          obtain ⟨a, c, hu2⟩ := hu.ls_val
          have hd := T.slice (Option.some.inj hk)
          subst hd
          exact Yld.same (by simp [execOp, resolve, invoke, builtin, Builtin.len_, run_underlying T.und, hu2, goInt]) (.int _ _)
        · rename_i e id off len cap hk hx
          simp only [Option.some.injEq, Prod.mk.injEq] at h
          obtain ⟨rfl, rfl⟩ := h
          rw [hx] at hu
          have hd := T.slice (Option.some.inj hk)
          subst hd
          generalize hv : ρ x = v at hu
          cases hu with | sl _ _ _ _ L a c hL hS =>
          exact Yld.same (by simp [execOp, resolve, invoke, builtin, Builtin.len_, run_underlying T.und, hv, goInt]) (.int _ _)
        · rename_i n e y hk
          simp only [Option.some.injEq, Prod.mk.injEq] at h
          obtain ⟨rfl, rfl⟩ := h
          have hd := T.arr (Option.some.inj hk)
          subst hd
          exact Yld.same (by simp [execOp, resolve, invoke, builtin, Builtin.len_, run_underlying T.und, goInt]) (.int _ _)
        · cases h
      · rename_i x t
        cases ht : ty t with
        | none => simp [ht] at h
        | some ti =>
        simp only [ht, Option.map_some] at h
        obtain ⟨d, f, z, T⟩ := hty.at ht
        have hu := hget x
        split at h
        · rename_i e st n xs hk hx
          simp only [Option.some.injEq, Prod.mk.injEq] at h
          obtain ⟨rfl, rfl⟩ := h
          rw [hx] at hu
          have hd := T.slice (Option.some.inj hk)
          subst hd
          generalize hv : ρ x = v at hu
          obtain ⟨a, c, rfl⟩ := hu.ls_val
          obtain ⟨_, hl, _⟩ := hu.ls_cells
          have hc := hl.2.1 rfl
          exact Yld.same (by simp [execOp, resolve, invoke, builtin, Builtin.cap_, run_underlying T.und, hv, goInt, hc]) (.int _ _)
        · cases h
      · rename_i x y
        have hu := hget x
        have hu' := hget y
        split at h
        · rename_i k a k' b hx hy
          simp only [Option.some.injEq, Prod.mk.injEq] at h
          obtain ⟨rfl, rfl⟩ := h
          rw [hx] at hu
          rw [hy] at hu'
          exact Yld.same (by simp [execOp, resolve, invoke, builtin, Builtin.min_, Builtin.min2, hu.int_inv, hu'.int_inv]) (.int _ _)
        · cases h
      · rename_i x y
        have hu := hget x
        have hu' := hget y
        split at h
        · rename_i k a k' b hx hy
          simp only [Option.some.injEq, Prod.mk.injEq] at h
          obtain ⟨rfl, rfl⟩ := h
          rw [hx] at hu
          rw [hy] at hu'
          exact Yld.same (by simp [execOp, resolve, invoke, builtin, Builtin.max_, Builtin.max2, hu.int_inv, hu'.int_inv]) (.int _ _)
        · cases h
      · cases h
    | _ => simp [opVal] at h
  | _ => simp [opVal] at h
end

end Go.Av
