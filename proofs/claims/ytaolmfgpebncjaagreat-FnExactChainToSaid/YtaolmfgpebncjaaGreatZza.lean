/- The tips of clients. -/
import Derived.Test.YtaolmfgpebncjaaGreatZx
set_option maxRecDepth 100000
set_option maxHeartbeats 3200000
set_option linter.unusedSimpArgs false
set_option linter.unusedVariables false
namespace Go.Proofs.YtaolmfgpebncjaaGreat
open Go.Av
attribute [local irreducible] T thenQ blockQ againQ againS WX retV retR Gt Gts GtsP okCells CV CR Av.Pure
attribute [local irreducible] sha zerosL lz8 hdD hdFault zerosN hardF firstB

theorem joined_nil {hs : List Hd} : Joined (hs.take 0) := ⟨fun x hx => by simp at hx, fun i h1 h2 => by simp at h2⟩
theorem parI_take (hs : List Hd) {i m : Nat} (h : i < m) : parI (hs.take m) i = parI hs i := by
  unfold parI
  rw [List.take_take, Nat.min_eq_left (by omega), getD_take hs Hd0 h]
theorem joined_step {hs : List Hd} {k : Nat} (hk : k < hs.length) (hJ : Joined (hs.take k)) : hdFault (hs.getD k Hd0) = 0 → (k = 0 ∨ joinF (hs.take k) (hs.getD k Hd0) = 0) → Joined (hs.take (k + 1)) := by
  intro h1 h2
  have e : hs.take (k + 1) = hs.take k ++ [hs.getD k Hd0] := by rw [List.take_add_one, List.getElem?_eq_getElem hk, List.getD_eq_getElem?_getD, List.getElem?_eq_getElem hk]; rfl
  refine ⟨fun x hx => ?_, fun i hi hl => ?_⟩
  · rw [e] at hx
    rcases List.mem_append.1 hx with hx | hx
    · exact hJ.1 x hx
    · rw [List.mem_singleton.1 hx]; exact h1
  · rw [List.length_take] at hl
    rw [parI_take hs (by omega)]
    by_cases hik : i < k
    · have := hJ.2 i hi (by rw [List.length_take]; omega)
      rw [parI_take hs hik] at this
      exact this
    · obtain rfl : i = k := by omega
      rcases h2 with h2 | h2
      · omega
      · unfold joinF at h2
        split at h2
        · cases h2
        · split at h2
          · cases h2
          · rename_i q
            unfold parI
            omega

attribute [local irreducible] parI joinF

def stepF (pre : List Hd) (x : Hd) (i : Nat) : Int := if hardF x ≠ 0 then hardF x else if i = 0 then (if firstB x = true then 0 else 1) else joinF pre x
def cliStep (hs : List Hd) (i : Nat) : Int := stepF (hs.take i) (hs.getD i Hd0) i
def cliGo (hs : List Hd) : Nat → Nat → Int
  | 0, _ => 0
  | n + 1, i => if cliStep hs i = 0 then cliGo hs n (i + 1) else cliStep hs i
def cliFault (c : Cli) : Int :=
  if ¬ (1 ≤ c.depth ∧ c.depth ≤ 6) then 3 else if c.heads.length = 0 then 4 else if 24 < c.heads.length then 2 else cliGo c.heads c.heads.length 0

end Go.Proofs.YtaolmfgpebncjaaGreat

set_option maxRecDepth 100000
set_option maxHeartbeats 3200000
set_option linter.unusedSimpArgs false
set_option linter.unusedVariables false
namespace Go.Proofs.YtaolmfgpebncjaaGreat
open Go.Av
attribute [local irreducible] T thenQ blockQ againQ againS WX retV retR Gt Gts GtsP okCells CV CR Av.Pure
attribute [local irreducible] sha zerosL lz8 hdD hdFault zerosN hardF firstB wayD chainL

def wt1 (x : Hd) : Int := ((2 ^ x.zeros.toNat : Nat) : Int)
def wtUp (c : List Hd) : Nat → Int
  | 0 => 0
  | k + 1 => wtUp c k + wt1 (c.getD k Hd0)
def wtL (c : List Hd) : Int := wtUp c c.length
attribute [local irreducible] wtUp wt1

def bestUp (hs : List Hd) : Nat → Nat × Int
  | 0 => (0, -1)
  | k + 1 => if (bestUp hs k).2 < wtL (chainL hs k) then (k, wtL (chainL hs k)) else bestUp hs k
def bestL (hs : List Hd) : Nat := (bestUp hs hs.length).1
attribute [local irreducible] bestUp wtL

end Go.Proofs.YtaolmfgpebncjaaGreat

set_option maxRecDepth 100000
set_option maxHeartbeats 3200000
set_option linter.unusedSimpArgs false
set_option linter.unusedVariables false
namespace Go.Proofs.YtaolmfgpebncjaaGreat
open Go.Av
attribute [local irreducible] T thenQ blockQ againQ againS WX retV retR Gt Gts GtsP okCells CV CR Av.Pure
attribute [local irreducible] sha zerosL lz8 hdD hdFault zerosN hardF firstB wayD chainL bestUp wtL joinF

attribute [local irreducible] cliFault

def mainL (hs : List Hd) : List Nat := (wayD hs (bestL hs)).reverse
def tipV (c : Cli) : Int := if cliFault c = 0 then (bestL c.heads : Int) else 0

end Go.Proofs.YtaolmfgpebncjaaGreat
