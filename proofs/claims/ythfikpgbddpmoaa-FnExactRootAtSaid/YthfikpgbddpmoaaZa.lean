/- The tree of leaves: its root, and the sides of a way. -/
import Derived.Test.YthfikpgbddpmoaaXg
import Derived.Test.YthfikpgbddpmoaaRa
set_option maxRecDepth 100000
set_option maxHeartbeats 3200000
set_option linter.unusedSimpArgs false
set_option linter.unusedVariables false
namespace Go.Proofs.Ythfikpgbddpmoaa
open Go.Av
attribute [local irreducible] T thenQ blockQ againQ againS WX retV retR Gt Gts GtsP okCells CV CR Av.Pure
attribute [local irreducible] sha

theorem tagged_cv (s : ByteArray) (ws : List (List UInt8)) (hs : s.size ≤ 255) (h : ws.flatten.length ≤ 1000000000) (h2 : ws.length ≤ 1000000000) : CV Try.prog 174 [.str s, sl1 (ws.map byA)] (· = sl1 (bA (sha (tagL s ++ ws.flatten)))) :=
  CR.byVal (tagged_cr s ws hs h h2 0) (by rw [bA_length, sha_length]) (pureB_bA _)

theorem specTagged_cv (s : ByteArray) (d : List UInt8) (hs : s.size ≤ 255) (h : d.length ≤ 1000000000) : CV Try.prog 158 [.str s, sl1 (bA d)] (· = sl1 (bA (sha (tagL s ++ d)))) :=
  CR.byVal (specTagged_cr s d hs h 0) (by rw [bA_length, sha_length]) (pureB_bA _)

abbrev leafS : ByteArray := ByteArray.mk #[108, 101, 97, 102]
abbrev nodeS : ByteArray := ByteArray.mk #[110, 111, 100, 101]
abbrev noneS : ByteArray := ByteArray.mk #[110, 111, 110, 101]

def leafD (d : List UInt8) : List UInt8 := sha (tagL leafS ++ d)
def nodeD (a b : List UInt8) : List UInt8 := sha (tagL nodeS ++ (a ++ b))
def noneD : List UInt8 := sha (tagL noneS ++ [])
theorem loose2 {x y u v : AV} (h : Loose x y) (k : Loose u v) : ∀ (i : Nat) (a b : AV), [x, u][i]? = some a → [y, v][i]? = some b → Loose a b := fun i a b ha hb => by
  match i, ha, hb with
  | 0, ha, hb => obtain rfl := Option.some.inj ha; obtain rfl := Option.some.inj hb; exact h
  | 1, ha, hb => obtain rfl := Option.some.inj ha; obtain rfl := Option.some.inj hb; exact k

def splitGo : Nat → Nat → Nat → Nat
  | 0, m, _ => m
  | f + 1, m, n => if 2 * m < n then splitGo f (2 * m) n else m
def splitN (n : Nat) : Nat := splitGo n 1 n
structure SplitSt (n : Nat) (m : Nat) : Prop where
  pos : 0 < m
  le : m ≤ n + 1
  eq : ∃ f, splitN n = splitGo f m n ∧ n ≤ f + m
def rootGo : Nat → List (List UInt8) → List UInt8
  | 0, _ => noneD
  | f + 1, ws => if ws.length = 0 then noneD else if ws.length = 1 then leafD (ws.getD 0 []) else nodeD (rootGo f (ws.take (splitN ws.length))) (rootGo f (ws.drop (splitN ws.length)))
def rootL (ws : List (List UInt8)) : List UInt8 := rootGo ws.length ws
end Go.Proofs.Ythfikpgbddpmoaa
