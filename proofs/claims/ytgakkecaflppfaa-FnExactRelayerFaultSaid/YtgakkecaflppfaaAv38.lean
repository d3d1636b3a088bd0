/- What is dropped at a round's end, in short. -/
import Derived.Test.YtgakkecaflppfaaAv37
set_option linter.unusedSimpArgs false
set_option linter.unusedVariables false
namespace Go.Av

theorem lowB_one {N id sz : Nat} {w : AV} {sl ro : Bool} {l : List (Nat × Option Box)} (hid : id < N) (h : PureAll w.cells) (k : LowB N l) : LowB N ((id, some ⟨[w], sz, sl, ro⟩) :: l) :=
  lowB_cons hid (fun x hx y hy => by
    simp only [List.mem_cons, List.not_mem_nil, or_false] at hx
    subst hx
    exact .pure (h.mem y hy)) k

theorem pure_agg_cells {cs : List AV} (h : PureAll cs) : PureAll (AV.agg cs).cells := h

end Go.Av
