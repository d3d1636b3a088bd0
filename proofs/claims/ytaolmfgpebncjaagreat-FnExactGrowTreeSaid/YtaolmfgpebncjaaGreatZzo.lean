/- Heads marked and held. -/
import Derived.Test.YtaolmfgpebncjaaGreatWt
import Derived.Test.YtaolmfgpebncjaaGreatXj
import Derived.Test.YtaolmfgpebncjaaGreatZzn
set_option maxRecDepth 100000
set_option maxHeartbeats 3200000
set_option linter.unusedSimpArgs false
set_option linter.unusedVariables false
namespace Go.Proofs.YtaolmfgpebncjaaGreat
open Go.Av
attribute [local irreducible] T thenQ Uv Y0 Uz WX retV retR Gt Gts GtsP Qs CV CR Av.Pure
abbrev logA (a b:List UInt8):AV:=.agg [sl1 (bA a),sl1 (bA b)]
abbrev logResA (c:Int) (a b:List UInt8):AV:=.agg [.int .i64 c,sl1 (bA a),sl1 (bA b)]
def logFault (a b:List UInt8):Int:=if 2000 < a.length + b.length then 2 else 0
def syncOut (a b:List UInt8):List UInt8:=if logFault a b = 0 then a++b else []
end Go.Proofs.YtaolmfgpebncjaaGreat
set_option maxRecDepth 100000
set_option maxHeartbeats 3200000
set_option linter.unusedSimpArgs false
set_option linter.unusedVariables false
namespace Go.Proofs.YtaolmfgpebncjaaGreat
open Go.Av
attribute [local irreducible] T thenQ Uv Y0 Uz WX retV retR Gt Gts GtsP Qs CV CR Av.Pure
theorem markHead_cr (x:Hd) (k:Int) (s:Bool) (ha:x.parent.length<=1073741824) (hb:x.root.length<=1073741824) (h0:0<=k) (h1:k<=1152921503533105152) :
  CR Tryz.prog 140 [hdB 0 1 x,.int .i64 k] [(0,boxH s x.parent),(1,boxH s x.root)] 2
   (Is (.int .i64 (k + x.parent.length + x.root.length)) [(0,boxH s (Yf k x.parent.length)),(1,boxH s (Yf (k + x.parent.length) x.root.length))] 2):=by
 refine Us Qc Tryz.func140 (by kernel_rfl) rfl 14 rfl (by simp) [.tmp 4] rfl ?_
 intro w0 ok0 wr φ0
 have c0:=λ (id N:Nat) (hid:id < N)=>markByteS_at x.parent k s ha h0 (by omega) id N hid
 have c1:=λ (id N:Nat) (hid:id < N)=>markByteS_at x.root (k + x.parent.length) s hb (by omega) (by omega) id N hid
 repeat' (first|refine Qh ?_|refine Q9 ?_|refine Q8 Qc ?_|refine Qi ?_|refine Qu ?_|apply Qd|apply Q2|(apply Jj;exact rfl;exact Q0 rfl;(iterate 3 exact rfl);(· (first|exact ⟨rfl,rfl⟩|exact ⟨rfl,trivial⟩|assumption)))|(apply J6;(iterate 4 exact rfl);exact Q0 rfl)|apply Yd|(apply S_callL ([0]) (f:=62);(· repeat' (first|exact Ql|exact Q0 rfl|apply Qg));exact rfl;(· (apply c0)<;>first|assumption|decide|omega))|(apply S_callL ([1]) (f:=62);(· repeat' (first|exact Ql|exact Q0 rfl|apply Qg));exact rfl;(· (apply c1)<;>first|assumption|decide|omega))|exact Q0 rfl|exact Q5 rfl rfl|exact rfl|fail)
 (apply E_U0 [(0,0),(1,1)]<;>repeat' (first|exact J4|(apply J3;exact rfl)|(apply Qx;(iterate 6 exact rfl))|(apply J5;(iterate 4 exact rfl);(· (first|assumption|exact rfl)))|exact Ren.sl _ _ _ _|(apply Ub;(· first|exact rfl|omega);(· first|exact rfl|assumption|(simp [Q1];done)|(simp [Q1];omega));(· first|exact rfl|assumption|(simp [Q1];done)|(simp [Q1];omega)))|exact Ren.ptr _ _ _|exact Qf|apply Q7|(apply Ren.pure;exact Q4.out)|apply Qm|apply Qv|exact Low.sl _ _ _ _ (by decide)|exact Low.ptr _ _ _ (by decide)|exact J0|apply Qq|(apply Low.pure;exact Q4.out)|apply U3|apply U2|exact Ji|(apply Jx;exact rfl;(· first|exact rfl|assumption|(simp [bA];done));exact Q6.out)|(apply Jh;exact rfl)|exact Jc|apply J1|(apply Uf.low;exact Q6.out)|apply Ju|exact Jv|exact rfl))
theorem markHead_at (x:Hd) (k:Int) (s:Bool) (ha:x.parent.length<=1073741824) (hb:x.root.length<=1073741824) (h0:0<=k) (h1:k<=1152921503533105152) (i j N:Nat) (hi:i < N) (hj:j < N) (hij:i≠j) :
  CR Tryz.prog 140 [hdB i j x,.int .i64 k] [(i,boxH s x.parent),(j,boxH s x.root)] N
   (Is (.int .i64 (k + x.parent.length + x.root.length)) [(i,boxH s (Yf k x.parent.length)),(j,boxH s (Yf (k + x.parent.length) x.root.length))] N) :=
 (CR.toI (markHead_cr x k s ha hb h0 h1) [i,j] rfl (by simp [*]<;>omega) _ (by simp [*]<;>omega) (by repeat' (first|exact Ren.sl _ _ _ _|exact Ren.ptr _ _ _|exact Qf|apply Q7|(apply Ren.pure;exact Q4.out)|apply Qm|apply Qv|exact Jn|(apply Ja;exact rfl;exact Q6.out)|(apply Jm;exact rfl))) (by repeat' (first|exact Ren.sl _ _ _ _|exact Ren.ptr _ _ _|exact Qf|apply Q7|(apply Ren.pure;exact Q4.out)|apply Qm|apply Qv|exact Jn|(apply Ja;exact rfl;exact Q6.out)|(apply Jm;exact rfl))) (by omega) (by repeat' (first|exact Ren.sl _ _ _ _|exact Ren.ptr _ _ _|exact Qf|apply Q7|(apply Ren.pure;exact Q4.out)|apply Qm|apply Qv|exact Jn|(apply Ja;exact rfl;exact Q6.out)|(apply Jm;exact rfl))) (by repeat' (first|exact Ren.sl _ _ _ _|exact Ren.ptr _ _ _|exact Qf|apply Q7|(apply Ren.pure;exact Q4.out)|apply Qm|apply Qv|exact Jn|(apply Ja;exact rfl;exact Q6.out)|(apply Jm;exact rfl))))
abbrev hdM (x:Hd) (k:Int) (a b:Nat):Hd:=⟨Yf k a,x.height,x.time,x.zeros,Yf (k + a) b,x.nonce⟩
theorem heldHead_cv (x:Hd) (a b:Nat) (k:Int) (ha:a<=1073741824) (hb:b<=1073741824) (h0:0<=k) (h1:k<=1152921503533105152) :
  CV Tryz.prog 141 [hdA (hdM x k a b),.int .i64 k] (· = .int .i64 (k + a + b)):=by
 refine J7 Qc Tryz.func141 (by kernel_rfl) rfl 18 rfl (by simp) [.tmp 4] rfl ?_
 intro w0 ok0
 have d1:decide (k + (a:Int) < 0) = false:=decide_eq_false (by omega)
 have d2:decide (k + (a:Int) + (b:Int) < 0) = false:=decide_eq_false (by omega)
 have c0:=heldByteS_cv a k ha h0 (by omega)
 have c1:=heldByteS_cv b (k + a) hb (by omega) (by omega)
 repeat' (first|refine Qh ?_|refine Q9 ?_|refine Q8 Qc ?_|refine Qi ?_|refine Qw ?_|refine Qu ?_|(apply Jr;exact rfl;(· (repeat' (first|exact Qb _ _|exact Qj _|exact Qn _);done)))|(apply J9;exact rfl;(· (first|assumption|exact rfl)))|apply Qd|apply Q2|(apply Jj;exact rfl;exact Q0 rfl;(iterate 3 exact rfl);(· (first|exact ⟨rfl,rfl⟩|exact ⟨rfl,trivial⟩|assumption)))|(apply J6;(iterate 4 exact rfl);exact Q0 rfl)|apply Jd|apply Yd|apply Qk (f:=176)|apply c0|apply c1|exact Qa|apply Q3|(apply View.pure;exact Q4.out)|exact Jq.out|exact Q0 rfl|exact Ql|(apply Qg;exact Q0 rfl)|exact Q5 rfl rfl|exact rfl|fail)
end Go.Proofs.YtaolmfgpebncjaaGreat
