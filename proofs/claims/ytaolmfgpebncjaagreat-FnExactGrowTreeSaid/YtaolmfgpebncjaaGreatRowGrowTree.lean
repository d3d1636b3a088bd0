/- Whatever the input, FnExactGrowTree returns true, and the input reads behind the call as it read before it. Conditions: none beyond those of the given row. -/
import Derived.Test.YtaolmfgpebncjaaGreatRows
import Derived.Test.YtaolmfgpebncjaaGreatLzk
set_option maxRecDepth 100000
set_option linter.unusedVariables false
namespace Go.Proofs.YtaolmfgpebncjaaGreat.fnExactGrowTree
open Go.Av
theorem own:ownKnob Tryz.prog.godebug = none:=by kernel_rfl
theorem lifted (os:Os) (started:os.Started) (H:Type) (enc:TypeId×Value->H) :
  ReturnsInHanded {} Tryz.checked os 4 .any (Rows.fnExactGrowTreeSpec.pre6 enc Tryz.prog Tryz.f4 Rows.fnExactGrowTreeRow.domain false) (Rows.fnExactGrowTreeSpec.post enc Tryz.prog Tryz.f4 false true false false):=by
 refine lift_law (C:=Tryz.checked) Qc started own (by kernel_rfl) Tryz.func4
  (ChangeSpec.witness6 (enc:=enc) (C:=Tryz.checked) false ⟨#[],#[.slice none 0 0,.int .i64 0,.int .i64 0,.slice none 0 0,.int .i64 0],[]⟩ 8 (by kernel_rfl) (by kernel_rfl) (by kernel_rfl) (by kernel_rfl))
  rfl (λ ds h=>?_) rfl (λ _=>rfl) Tryz.underlying4 (by kernel_rfl) (λ t ht=>?_) (λ xs hx=>?_)
 ·match ds,h with
  | [d0,d1,d2,d3,d4],_=>rfl
 ·have h:t = 22∨t = 2∨t = 2∨t = 35∨t = 2:=by
   have:t∈[22,2,2,35,2]:=ht
   simpa using this
  rcases h with rfl|rfl|rfl|rfl|rfl
  ·exact ⟨by kernel_rfl,by kernel_rfl,of_decide_eq_true (by kernel_rfl)⟩
  ·exact ⟨by kernel_rfl,by kernel_rfl,of_decide_eq_true (by kernel_rfl)⟩
  ·exact ⟨by kernel_rfl,by kernel_rfl,of_decide_eq_true (by kernel_rfl)⟩
  ·exact ⟨by kernel_rfl,by kernel_rfl,of_decide_eq_true (by kernel_rfl)⟩
  ·exact ⟨by kernel_rfl,by kernel_rfl,of_decide_eq_true (by kernel_rfl)⟩
 ·have hx:Args ty [22,2,2,35,2] xs:=hx
  match xs,hx with
  | [x0,x1,x2,x3,x4],⟨h0,h1,h2,h3,h4,_⟩ =>
    obtain ⟨l,rfl,hl⟩:=isBlks h0
    obtain ⟨p,rfl,_,_⟩:=isInt h1
    obtain ⟨t,rfl,_,_⟩:=isInt h2
    obtain ⟨e,rfl,he⟩:=isRows h3
    obtain ⟨k,rfl,_,_⟩:=isInt h4
    exact law_GrowTree l p t e k hl he
theorem over:Rows.fnExactGrowTreeRow.holds Tryz.pinned (OpenSpec.ofChange Rows.fnExactGrowTreeSpec) :=
 OpenClaim.holds_of_wide 4 Tryz.f4 rfl rfl rfl rfl rfl rfl rfl ⟨rfl,rfl,rfl,rfl,rfl⟩ rfl rfl rfl rfl rfl (by kernel_rfl) Tryz.func4 (by kernel_rfl)
  (of_decide_eq_true (by kernel_rfl)) (by unfold Func.isWrapper;first|(rw [if_pos (by decide +kernel)];kernel_rfl)|(rw [if_neg (by decide +kernel)];exact ⟨rfl,rfl⟩))
  (λ os started H enc _=>lifted os started H enc)
end Go.Proofs.YtaolmfgpebncjaaGreat.fnExactGrowTree
namespace Go.Proofs.YtaolmfgpebncjaaGreat
theorem fnExactGrowTree_holds:Rows.FnExactGrowTreeSaid:=fnExactGrowTree.over
end Go.Proofs.YtaolmfgpebncjaaGreat
