/- Operations that only compute or read: the machine makes what opVal tells. -/
import Derived.Test.YtgakkecaflppfaaAv5
namespace Go.Av

def Yld (P : Program) (ρ : Operand → Value) (o : Oper) (G : Gh) (bx : List (Nat × Option Box)) (φ : Nat → Option Loc) (w : World) (r : AV) : Prop :=
  ∃ v w', (execOp ρ o).run P w = .ok (.value v) w' ∧ Ext w w' ∧ Rep w' φ (OK G bx φ w') r v

section
variable {P : Program} {ty : TypeId → Option TI} {G : Gh} {bx : List (Nat × Option Box)} {nx : Nat} {φ : Nat → Option Loc} {w : World} {ρ : Operand → Value} {get : Operand → AV}

theorem Yld.same {o : Oper} {r : AV} {v : Value} (h : (execOp ρ o).run P w = .ok (.value v) w) (k : Rep w φ (OK G bx φ w) r v) : Yld P ρ o G bx φ w r :=
  ⟨v, w, h, .refl w, k⟩

theorem run_equalIn_bool {t : TypeId} (h : P.underlying t = some .bool) (a b : Bool) (d : Nat) : (Op.equalIn (d + 1) t (.bool a) (.bool b)).run P w = .ok (a == b) w := by
  simp only [Op.equalIn, Sem.run_bind, run_underlying h, Result.andThen_ok, Sem.run_pure]
theorem run_equal_bool {t : TypeId} (h : P.underlying t = some .bool) (a b : Bool) : (Op.equal t (.bool a) (.bool b)).run P w = .ok (a == b) w :=
  run_equalIn_bool h a b 9999
theorem run_equalIn_nil {t e : TypeId} (h : P.underlying t = some (.slice e)) (a : Option Addr) (n c n' c' : Nat) (d : Nat) :
    (Op.equalIn (d + 1) t (.slice a n c) (.slice none n' c')).run P w = .ok a.isNone w := by
  cases a <;> simp only [Op.equalIn, Sem.run_bind, run_underlying h, Result.andThen_ok, Sem.run_pure, Option.isNone_none, Option.isNone_some]
theorem run_equal_nil {t e : TypeId} (h : P.underlying t = some (.slice e)) (a : Option Addr) (n c n' c' : Nat) :
    (Op.equal t (.slice a n c) (.slice none n' c')).run P w = .ok a.isNone w := run_equalIn_nil h a n c n' c' 9999

theorem intBin_ok {ok : Nat → Nat → Prop} {op : BinOp} {k : IntKind} {a b : Int} {t : TypeId} {p : Prop} {r : AV} (h : intBin op k a b = some (p, r)) (hp : p) :
    ∃ v, (binOp op t (.int k a) (.int k b)).run P w = .ok v w ∧ Rep w φ ok r v := by
  unfold intBin at h
  cases op <;> simp only [Option.some.injEq, Prod.mk.injEq, reduceCtorEq] at h <;>
    (try obtain ⟨rfl, rfl⟩ := h) <;>
    first
    | exact ⟨_, by simp only [binOp_add, binOp_sub, binOp_mul, Op.intArith, Sem.run_pure], .int _ _⟩
    | exact ⟨_, by simp only [binOp_quo, binOp_rem, Op.intDiv, if_neg hp, Sem.run_pure], .int _ _⟩
    | exact ⟨_, by simp only [binOp_and, binOp_or, binOp_xor, binOp_andNot, intBits_and, intBits_or, intBits_xor, intBits_andNot, Sem.run_pure], .int _ _⟩
    | exact ⟨_, by simp only [binOp_eql, binOp_neq, binOp_lss, binOp_leq, binOp_gtr, binOp_geq, Sem.run_pure], .bool _⟩
    | exact absurd h (by simp)

theorem binVal_ok (hty : TyOk P ty) {ok : Nat → Nat → Prop} {op : BinOp} {t : TypeId} {x y : AV} {u v : Value} {p : Prop} {r : AV} {X Y : Operand}
    (hx : Rep w φ ok x u) (hy : Rep w φ ok y v) (h : binVal ty op t x y = some (p, r)) (hp : p) :
    ∃ z, (do eqGuard op t X Y u v; binOp op t u v).run P w = .ok z w ∧ Rep w φ ok r z := by
  unfold binVal at h
  split at h
  · rename_i k a k' b
    cases hx; cases hy
    rw [eqGuard_at_int]
    simp only [pure_bind]
    split at h
    · simp only [Option.some.injEq, Prod.mk.injEq] at h
      obtain ⟨rfl, rfl⟩ := h
      have hn : ¬ (b < 0) := by omega
      exact ⟨_, by simp only [binOp_shl, Op.shift, if_neg hn, Sem.run_pure], .int _ _⟩
    · simp only [Option.some.injEq, Prod.mk.injEq] at h
      obtain ⟨rfl, rfl⟩ := h
      have hn : ¬ (b < 0) := by omega
      exact ⟨_, by simp only [binOp_shr, Op.shift, if_neg hn, Sem.run_pure], .int _ _⟩
    · split at h
      · rename_i e; subst e
        exact intBin_ok h hp
      · cases h
  · cases hx; cases hy
    rw [eqGuard_at_string]
    simp only [pure_bind]
    unfold strBin at h
    split at h <;> simp only [Option.some.injEq, Prod.mk.injEq, reduceCtorEq] at h
    · obtain ⟨rfl, rfl⟩ := h
      refine ⟨_, ?_, .str _⟩
      have hn := hp
      rw [← IntKind.max_i64] at hn
      simp only [binOp, Op.stringOp]
      rw [if_neg (by omega)]
      rfl
    · obtain ⟨rfl, rfl⟩ := h
      exact ⟨_, by simp only [binOp, Op.stringOp, Sem.run_pure], .bool _⟩
    · obtain ⟨rfl, rfl⟩ := h
      exact ⟨_, by simp only [binOp, Op.stringOp, Sem.run_pure], .bool _⟩
  · rename_i a b
    cases hx; cases hy
    rw [eqGuard_at_bool]
    simp only [pure_bind]
    cases ht : ty t with
    | none => simp [ht] at h
    | some ti =>
      obtain ⟨d, f, z, hT⟩ := hty.at ht
      simp only [ht, Option.map_some] at h
      split at h <;> simp only [Option.some.injEq, Prod.mk.injEq, reduceCtorEq] at h
      all_goals
        obtain ⟨rfl, rfl⟩ := h
        rename_i hk
        have hd := hT.bool (by simpa using hk)
        subst hd
        refine ⟨_, ?_, .bool _⟩
        simp only [binOp, Sem.run_bind, run_equal_bool hT.und, Result.andThen_ok, Sem.run_pure]
  · rename_i s n e xs s'
    cases hx with | ls _ _ _ _ a c vs hl hn hc hr =>
    cases hy with | ls _ _ _ _ a' c' vs' hl' hn' hc' hr' =>
    have ha' := hl'.2.2.1 rfl rfl
    subst ha'
    have hc0 := hl'.none.2
    subst hc0
    rw [eqGuard_at_slice]
    simp only [pure_bind]
    cases ht : ty t with
    | none => simp [ht] at h
    | some ti =>
      obtain ⟨d, f, z, hT⟩ := hty.at ht
      simp only [ht, Option.map_some] at h
      have hnil : (n = true → e = true) → a.isNone = n := by
        intro hne
        cases n with
        | true => rw [hl.2.2.1 rfl (hne rfl)]; rfl
        | false => have := hl.2.2.2.1 rfl; cases a <;> simp_all
      split at h <;> simp only [Option.some.injEq, Prod.mk.injEq, reduceCtorEq] at h
      all_goals
        obtain ⟨rfl, rfl⟩ := h
        rename_i hk
        have hd := hT.slice (by simpa using hk)
        subst hd
        refine ⟨_, ?_, .bool _⟩
        simp only [binOp, Sem.run_bind, run_equal_nil hT.und, Result.andThen_ok, Sem.run_pure, hnil hp]
  · cases h

theorem unVal_ok {ok : Nat → Nat → Prop} {op : UnOp} {x : AV} {u : Value} {p : Prop} {r : AV} (hx : Rep w φ ok x u) (h : unVal op x = some (p, r)) :
    ∃ z, (Op.unary op u).run P w = .ok z w ∧ Rep w φ ok r z := by
  unfold unVal at h
  split at h <;> simp only [Option.some.injEq, Prod.mk.injEq, reduceCtorEq] at h <;> obtain ⟨rfl, rfl⟩ := h <;> cases hx
  · exact ⟨_, by simp only [Op.unary, Op.intArith, Sem.run_pure], .int _ _⟩
  · exact ⟨_, by simp only [Op.unary, intBits_xor, Sem.run_pure], .int _ _⟩
  · exact ⟨_, by simp only [Op.unary, Sem.run_pure], .bool _⟩
end

end Go.Av
