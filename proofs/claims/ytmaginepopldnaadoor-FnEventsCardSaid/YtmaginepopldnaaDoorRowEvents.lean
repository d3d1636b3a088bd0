/- Whatever the input, FnEvents returns true, and the input reads behind the call as it read before it; the two listed tables are tied to the program's text. Conditions: none beyond those of the given row and its card. -/
import Derived.Test.YtmaginepopldnaaDoorRows
import Derived.Test.YtmaginepopldnaaDoorTie
import Derived.Test.YtmaginepopldnaaDoorCards
import Derived.Test.YtmaginepopldnaaDoorLzl
import Derived.LaidMore
import Derived.OpenShut
import Derived.Lay
import Derived.Stop.Joined
import Derived.SevenTiedAt
set_option maxRecDepth 100000
set_option linter.unusedVariables false
namespace Go.Proofs.YtmaginepopldnaaDoor.fnEvents
open Go.Av Go.ChangeShapes Go.WideShapes Go.ChangeAt Go.RowKit
theorem lift_lawX {C : Checked} {ty : TypeId → Option TI} (hty : TyOk C.prog ty) {os : Os} (started : os.Started) {H : Type} {enc : TypeId × Value → H} {f : FuncId} {fn : Func} {s : ChangeSpec} {conds : List PathCond} {tb : TypeId} {X : World → Array Value → Prop}
    (hX : ∀ (w w' : World) (args : Array Value), w.heap = w'.heap → X w args → X w' args) (own : ownKnob C.prog.godebug = none) (noInit : C.prog.inits.idxOf? f = none) (hfn : C.prog.funcs[f]? = some fn)
    (witness : ∃ (w : World) (tape : Tape) (i : Input), w.os = os ∧ (w.forCall tape i).Shaped C.prog ∧ i.vars = [] ∧ Input.okWide C.prog (w.forCall tape i) .any w.heap.size f i ∧
      ((s.pre enc C.prog fn conds false (w.forCall tape i).memory i.args ∧ X (w.forCall tape i).memory i.args) ∧ sizedMet enc C.prog fn (OpenSpec.ofChange s) false (w.forCall tape i).memory i.args) ∧ ({} : Assume).holds C.prog (lone (Frame.enter C.prog f i.args .normal) [] (w.forCall tape i)))
    (hvars : s.vars = []) (hs : ∀ ds : List (DataW H), ds.length = fn.params.toList.length → s.fn H (ds ++ []) = { results := [.lit (.bool true)], args := ds })
    (hres : fn.resultTypes.toList = [tb]) (hrl : ∀ b, (Value.bool b).resultList fn.resultTypes.size = [.bool b]) (htb : C.prog.underlying tb = some .bool) (hl : laidOutB C.prog = true)
    (hpar : ∀ t ∈ fn.params.toList, suppN ty t = true ∧ C.prog.readableRec t = true ∧ t < C.prog.types.size)
    (law : ∀ us, Args ty fn.params.toList us → CV C.prog f us (· = .bool true)) :
    ReturnsInHanded {} C os f .any (fun w args => (s.pre enc C.prog fn conds false w args ∧ X w args) ∧ sizedMet enc C.prog fn (OpenSpec.ofChange s) false w args) (s.post enc C.prog fn false true false false) := by
  refine returnsInHanded_of_change_and hX own started noInit hfn witness ?_
  intro W base args ds gs before hval hW hcnd hsz0 _ _
  have hW' := hW
  obtain ⟨p, q, hA, hV, rfl, hfz, hnd⟩ := hW
  rw [hvars] at hV
  obtain ⟨rfl, rfl⟩ := trodVars_none hV
  obtain ⟨us, hr, ha⟩ := args_rep hty _ _ _ _ hA (fun j t v e1 e2 => hval j t v (by simpa using e1) (by simpa using e2)) (fun t ht => (hpar t ht).1)
  refine ((law us ha).law (W := W) (fun _ _ h => h) hr).mono fun e W' ⟨he, bel⟩ => ?_
  subst he
  have hlen := trodAll_len _ _ _ _ hA
  have hfn' := hs ds hlen
  have hlt : ∀ x ∈ p, x.block < W.heap.size := fun x hx => hA.lt x hx
  refine ⟨_, rfl, ds, [], _, [], p, [], hW', ?_, ?_, ?_, bel.frame _, fun h => by cases h⟩
  · rw [hfn', hres, hrl]
    exact trodAll_mk1 (shut_bool htb _)
  · rw [hfn']
    exact args_below hl bel _ _ _ _ hA (fun t ht => (hpar t ht).2) hlt
  · rw [hfn', hvars]
    rfl

theorem own : ownKnob Tryd.prog.godebug = none := by kernel_rfl
abbrev laid2 : List (String × DataW Unit) := [("unicode/utf8.acceptRanges", Rows.laid_unicode_utf8_acceptRanges), ("unicode/utf8.first", Rows.laid_unicode_utf8_first)]

theorem lifted (os : Os) (started : os.Started) (H : Type) (enc : TypeId × Value → H) :
    ReturnsInHanded {} Tryd.checked os 6 .any (fun w args => (Rows.fnEventsSpec.pre enc Tryd.prog Tryd.f6 Rows.fnEventsRow.domain false w args ∧ laidMetH Tryd.prog laid2 w) ∧ sizedMet enc Tryd.prog Tryd.f6 (OpenSpec.ofChange Rows.fnEventsSpec) false w args)
      (Rows.fnEventsSpec.post enc Tryd.prog Tryd.f6 false true false false) := by
  refine lift_lawX (C := Tryd.checked) (X := fun w _ => laidMetH Tryd.prog laid2 w) tyOk started (fun _ _ _ hh h => h.of_heap hh) own (by kernel_rfl) Tryd.func6
    (ChangeSpec.witness_shaped (enc := enc) (C := Tryd.checked) (os := os) (X := fun w _ => laidMetH Tryd.prog laid2 w) false (World.laidAll Tryd.prog os laid2) #[.slice none 0 0] 8 (World.laidAll_os _ _ _)
      (World.shaped_of_ZipB (by kernel_rfl) (by kernel_rfl)) (by kernel_rfl) (by kernel_rfl) (by kernel_rfl)
      (by rw [MakeChecks.laidMetH_plain _ _ _ (by kernel_rfl)]; exact laidMet_laidAll _ (by kernel_rfl) (by kernel_rfl)))
    rfl (fun ds h => ?_) rfl (fun _ => rfl) Tryd.underlying4 (by kernel_rfl) (fun t ht => ?_) (fun xs hx => ?_)
  · match ds, h with
    | [d0], _ => rfl
  · have h : t = 29 := by
      have : t ∈ [29] := ht
      simpa using this
    rcases h with rfl
    exact ⟨by kernel_rfl, by kernel_rfl, of_decide_eq_true (by kernel_rfl)⟩
  · have hx : Args ty [29] xs := hx
    match xs, hx with
    | [x0], ⟨h0, _⟩ =>
      obtain ⟨d, rfl, hd⟩ := isBytes h0
      exact law_Events d hd
theorem over : Rows.FnEventsSaid :=
  OpenClaim.holds_of_wide 6 Tryd.f6 rfl rfl rfl rfl rfl rfl rfl ⟨rfl, rfl, rfl, rfl, rfl⟩ rfl rfl rfl rfl rfl (by kernel_rfl) Tryd.func6 (by kernel_rfl)
    (of_decide_eq_true (by kernel_rfl)) (by unfold Func.isWrapper; first | (rw [if_pos (by decide +kernel)]; kernel_rfl) | (rw [if_neg (by decide +kernel)]; exact ⟨rfl, rfl⟩))
    (fun os started H enc _ => lifted os started H enc)
theorem card : Rows.FnEventsCardSaid :=
  Claim7.holds_tied_plain_at .later [] [.data, .pinned] true (true, "34fb51effb2ce51885d36fbfb4fcaaeb74c177af5617b17b4141d75c758b31f6") false over (fun _ h => by cases h) (by kernel_rfl) (fun _ h => by cases h) fnEvents_row_tie rfl ⟨rfl, rfl⟩ (by kernel_rfl) rfl
    (fun f fn hf hfn => by
      obtain rfl : f = 6 := Option.some.inj ((show Tryd.prog.funcNamed "loop.example/g00143/laws.FnEvents" = some 6 by kernel_rfl).symm.trans hf) |>.symm
      obtain rfl : fn = Tryd.f6 := (Option.some.inj (Tryd.func6.symm.trans hfn)).symm
      exact ⟨by kernel_rfl, fun j t ht => by
        rw [Tryd.params6] at ht
        have hm : t ∈ [29] := by simpa using Array.mem_of_getElem? ht
        have hall : ([29].all fun u => !Tryd.prog.wantsStandIn u) = true := by kernel_rfl
        exact (show Tryd.prog.wantsStandIn t = false by simpa using List.all_eq_true.1 hall t hm)⟩)
    (by kernel_rfl)
end Go.Proofs.YtmaginepopldnaaDoor.fnEvents
namespace Go.Proofs.YtmaginepopldnaaDoor
theorem fnEvents_holds : Rows.FnEventsCardSaid := fnEvents.card
end Go.Proofs.YtmaginepopldnaaDoor
