/- Proofs checked. -/
import Derived.Test.YtaolmfgpebncjaaGreatZa
import Derived.Test.YtaolmfgpebncjaaGreatXj
set_option maxRecDepth 100000
set_option maxHeartbeats 3200000
set_option linter.unusedSimpArgs false
set_option linter.unusedVariables false
namespace Go.Proofs.YtaolmfgpebncjaaGreat
open Go.Av
attribute [local irreducible] T thenQ Uv Y0 Uz WX retV retR Gt Gts GtsP Qs CV CR Av.Pure
attribute [local irreducible] sha
abbrev boA (b:Bool):AV:=.bool b
instance:ElemF boA:=⟨λ a y hy=>by
 simp only [AV.cells,List.mem_cons,List.not_mem_nil,or_false] at hy
 subst hy
 exact ⟨Qj _,rfl⟩⟩
instance:OwnF boA:=⟨λ a y hy=>by
 simp only [AV.cells,List.mem_cons,List.not_mem_nil,or_false] at hy
 subst hy
 exact (flat_bool _).own⟩
abbrev boolsA (l:List Bool):AV:=sl1 (l.map boA)
def sidesGo:Nat->Nat->Nat->List Bool
 | 0,_,_=>[]
 | f + 1,c,p=>if c<=1 then [] else if p < Yk c then sidesGo f (Yk c) p++[false] else sidesGo f (c - Yk c) (p - Yk c)++[true]
def sidesL (c p:Nat):List Bool:=sidesGo c c p
def plOk (c p:Int):Bool:=(decide (1<=c) && decide (c<=16)) && (decide (0<=p) && decide (p<=c - 1))
def plC (c p:Int):Int:=if plOk c p then 0 else 3
def plV (c p:Int):Int:=if plOk c p then ((sidesL c.toNat p.toNat).length:Int) else 0
theorem indexRows_cv (g:Nat) (caps:List AV) (ws:List (List UInt8)) (p:List UInt8->Bool) (hp:Q4 (.fn g caps)) (hv:ViewL [] caps caps) (hl:ws.length<=1000000000) (hc:∀ w∈ws,CV Tryz.prog g (byA w::caps) (· = .bool (p w))) :
  CV Tryz.prog 173 [Y2 ws,.fn g caps] (· = .int .i64 (idxL p ws)):=by
 refine J7 Qc Tryz.func173 (by kernel_rfl) rfl 19 rfl (by simp) [.tmp 4] rfl ?_
 intro w0 ok0
 have hml:(ws.map byA).length = ws.length:=by simp
 have hF:idxL p ws = fiGo p (ws.drop 0) 0:=rfl
 repeat' (first|refine Qh ?_|refine Q9 ?_|refine Q8 Qc ?_|refine Qi ?_|refine Qo ?_|apply Qd|apply Q2|(apply Qp;exact rfl;exact Q0 rfl)|exact Q0 rfl|exact rfl|fail)
 refine Js (α:=Nat) (λ k=>⟨[(0,Y2 ws),(1,.fn g caps),(7,.int .i64 (ws.map byA).length),(8,.int .i64 k)],[],0⟩)
  (λ k=>ws.length - k) (λ k=>k<=ws.length/\idxL p ws = fiGo p (ws.drop k) k) 0 ((Jp (by repeat' (first|exact Qy|refine Qr rfl ?_)) (by repeat' (first|exact Qz|refine Qt (by first|rfl|exact congrArg (λ l=>some (Box.mk l _ _ _)) hset) ?_)) (Nat.le_refl _))).sub ⟨by omega,hF⟩ ?_
 rintro k ⟨hk,hI⟩
 by_cases hkl:k < ws.length
 ·have d:decide ((k:Int) < ((ws.map byA).length:Int)) = true:=by simp only [decide_eq_true_eq];omega
  have hget:=Uy byA ws [] (k:=k) (by omega)
  rw [fiGo_step p ws [] hkl] at hI
  have c0:=hc _ (getD_mem ws [] hkl)
  by_cases he:p (ws.getD k []) = true
  ·rw [if_pos he] at hI
   rw [hI]
   rw [he] at c0
   repeat' (first|refine Qh ?_|refine Q9 ?_|refine J8 ?_|refine Ui ?_|refine Ya ?_|refine Q8 Qc ?_|refine Qi ?_|refine Qw ?_|refine Qu ?_|refine Qo ?_|(apply Jr;exact rfl;(· (repeat' (first|exact Qb _ _|exact Qj _|exact Qn _);done)))|(apply Jf;exact rfl;(· (first|assumption|exact rfl)))|apply Qd|apply Q2|(apply Ue;exact rfl;exact Q0 rfl;exact rfl;(· (first|exact ⟨rfl,rfl⟩|exact ⟨rfl,trivial⟩|assumption)))|apply Jd|(apply Jk;exact rfl;exact rfl;exact Q0 rfl;exact Q0 rfl)|apply S_callFC|apply c0|apply Q3|(apply View.pure;exact Q4.out)|exact Jq.out|exact Q0 rfl|exact Ql|(apply Qg;exact Q0 rfl)|assumption|(refine ⟨?_,?_⟩<;>omega)|exact rfl|fail)
  ·rw [if_neg he] at hI
   simp only [Bool.not_eq_true] at he
   rw [he] at c0
   have hw:IntKind.wrap .i64 ((k:Int) + 1) = ((k + 1:Nat):Int):=by rw [wrap_i64 (by omega) (by omega)];omega
   repeat' (first|refine Qh ?_|refine Q9 ?_|refine U9 ?_|refine Q8 Qc ?_|refine Qi ?_|refine Qw ?_|refine Qo ?_|(apply Jf;exact rfl;(· (first|assumption|exact rfl)))|(apply J9;exact rfl;(· (first|assumption|exact rfl)))|apply Qd|apply Q2|(apply Ue;exact rfl;exact Q0 rfl;exact rfl;(· (first|exact ⟨rfl,rfl⟩|exact ⟨rfl,trivial⟩|assumption)))|apply Jd|apply Y7|(apply Jk;exact rfl;exact rfl;exact Q0 rfl;exact Q0 rfl)|apply S_callFC|apply c0|apply Q3|(apply View.pure;exact Q4.out)|exact Jq.out|exact Q0 rfl|exact Ql|(apply Qg;exact Q0 rfl)|assumption|(refine ⟨?_,?_⟩<;>omega)|exact rfl|fail)
   exact U7 (k + 1) ((Jp (by repeat' (first|exact Qy|refine Qr rfl ?_)) (by repeat' (first|exact Qz|refine Qt (by first|rfl|exact congrArg (λ l=>some (Box.mk l _ _ _)) hset) ?_)) (Nat.le_refl _))).sub ⟨by omega,hI⟩ (by omega)
 ·have d:decide ((k:Int) < ((ws.map byA).length:Int)) = false:=by simp only [decide_eq_false_iff_not];omega
  obtain rfl:k = ws.length:=by omega
  rw [List.drop_length] at hI
  rw [hI]
  repeat' (first|refine Qh ?_|refine Q9 ?_|refine Ua ?_|refine Jt ?_|refine Jo ?_|refine Q8 Qc ?_|refine Qi ?_|refine Qu ?_|refine Un ?_|(apply Jr;exact rfl;(· (repeat' (first|exact Qb _ _|exact Qj _|exact Qn _);done)))|(apply J9;exact rfl;(· (first|assumption|exact rfl)))|apply Q2|apply Jd|exact Q0 rfl|exact rfl|fail)
theorem containsRows_cv (g:Nat) (caps:List AV) (ws:List (List UInt8)) (p:List UInt8->Bool) (hp:Q4 (.fn g caps)) (hv:ViewL [] caps caps) (hl:ws.length<=1000000000) (hc:∀ w∈ws,CV Tryz.prog g (byA w::caps) (· = .bool (p w))) :
  CV Tryz.prog 126 [Y2 ws,.fn g caps] (· = .bool (ws.any p)):=by
 refine J7 Qc Tryz.func126 (by kernel_rfl) rfl 9 rfl (by simp) [.tmp 4] rfl ?_
 intro w0 ok0
 have c0:=indexRows_cv g caps ws p hp hv hl hc
 rw [<-idxL_any]
 repeat' (first|refine Qh ?_|refine Q9 ?_|refine Q8 Qc ?_|refine Qi ?_|refine Qu ?_|(apply Jr;exact rfl;(· (repeat' (first|exact Qb _ _|exact Qj _|exact Qn _);done)))|apply Qd|apply Q2|apply S_geq|apply Qk (f:=173)|apply c0|exact Qa|apply Q3|(apply View.pure;exact Q4.out)|exact Jq.out|exact Q0 rfl|exact Ql|(apply Qg;exact Q0 rfl)|exact rfl|fail)
def rows32 (ws:List (List UInt8)):Bool:=ws.all λ w=>decide (w.length = 32)
theorem any_not32 (ws:List (List UInt8)):(!ws.any λ w=>!decide (w.length = 32)) = rows32 ws:=by
 unfold rows32
 induction ws with
 | nil=>rfl
 | cons w ws ih=>rw [List.any_cons,List.all_cons,Bool.not_or,ih,Bool.not_not]
theorem isDigest_cv (w:List UInt8):CV Tryz.prog 183 [byA w] (· = .bool (decide (w.length = 32))):=by
 refine J7 Qc Tryz.func183 (by kernel_rfl) rfl 6 rfl (by simp) [.tmp 2] rfl ?_
 intro w0 ok0
 have hl:=Q1 w
 have e:decide (w.length = 32) = decide (((bA w).length:Int) = 32):=by
  by_cases h:w.length = 32
  ·rw [decide_eq_true h,decide_eq_true (by omega)]
  ·rw [decide_eq_false h,decide_eq_false (by omega)]
 rw [e]
 repeat' (first|refine Qh ?_|refine Q9 ?_|refine Q8 Qc ?_|refine Qi ?_|refine Qu ?_|(apply Jr;exact rfl;(· (repeat' (first|exact Qb _ _|exact Qj _|exact Qn _);done)))|apply Qd|apply Q2|(apply S_eql;exact Q0 rfl;exact Q0 rfl)|(apply Qp;exact rfl;exact Q0 rfl)|exact Q0 rfl|exact rfl|fail)
theorem areDigests1_cv (w:List UInt8):CV Tryz.prog 182 [byA w] (· = .bool (!decide (w.length = 32))):=by
 refine J7 Qc Tryz.func182 (by kernel_rfl) rfl 6 rfl (by simp) [.tmp 2] rfl ?_
 intro w0 ok0
 have c0:=isDigest_cv w
 repeat' (first|refine Qh ?_|refine Q9 ?_|refine Q8 Qc ?_|refine Qi ?_|refine Qu ?_|(apply Jr;exact rfl;(· (repeat' (first|exact Qb _ _|exact Qj _|exact Qn _);done)))|apply Qd|apply Q2|apply S_not|apply Qk (f:=183)|apply c0|exact Qa|apply Q3|(apply View.pure;exact Q4.out)|exact Jq.out|exact Q0 rfl|exact Ql|(apply Qg;exact Q0 rfl)|exact rfl|fail)
theorem areDigests_cv (ws:List (List UInt8)) (hl:ws.length<=1000000000):CV Tryz.prog 149 [Y2 ws] (· = .bool (rows32 ws)):=by
 refine J7 Qc Tryz.func149 (by kernel_rfl) rfl 6 rfl (by simp) [.tmp 2] rfl ?_
 intro w0 ok0
 have c0:=containsRows_cv 182 [] ws (λ w=>!decide (w.length = 32)) inferInstance Qa hl (λ w _=>areDigests1_cv w)
 rw [<-any_not32]
 repeat' (first|refine Qh ?_|refine Q9 ?_|refine Q8 Qc ?_|refine Qi ?_|refine Qu ?_|(apply Jr;exact rfl;(· (repeat' (first|exact Qb _ _|exact Qj _|exact Qn _);done)))|apply Qd|apply Q2|apply S_not|apply Qk (f:=126)|apply c0|exact Qa|apply Q3|(apply View.pure;exact Q4.out)|exact Jq.out|exact Q0 rfl|exact Ql|(apply Qg;exact Q0 rfl)|exact rfl|fail)
end Go.Proofs.YtaolmfgpebncjaaGreat
set_option maxRecDepth 100000
set_option maxHeartbeats 3200000
set_option linter.unusedSimpArgs false
set_option linter.unusedVariables false
namespace Go.Proofs.YtaolmfgpebncjaaGreat
open Go.Av
attribute [local irreducible] T thenQ Uv Y0 Uz WX retV retR Gt Gts GtsP Qs CV CR Av.Pure
attribute [local irreducible] sha
def prfOk (x:Prf):Bool:=plOk x.count x.place && (decide (x.path.length = (sidesL x.count.toNat x.place.toNat).length) && rows32 x.path)
def upSt (ss:List Bool) (ps:List (List UInt8)) (o:List UInt8):Nat->List UInt8
 | 0=>o
 | k + 1=>if ss.getD k false then nodeD (ps.getD k []) (upSt ss ps o k) else nodeD (upSt ss ps o k) (ps.getD k [])
def checkL (root data:List UInt8) (x:Prf):Bool:=prfOk x && decide (upSt (sidesL x.count.toNat x.place.toNat) x.path (leafD data) x.path.length = root)
end Go.Proofs.YtaolmfgpebncjaaGreat
