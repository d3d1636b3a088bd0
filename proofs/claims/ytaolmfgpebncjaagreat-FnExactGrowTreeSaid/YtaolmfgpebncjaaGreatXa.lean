/- Words that are mixed. -/
import Derived.Test.YtaolmfgpebncjaaGreatRa
import Derived.Test.YtaolmfgpebncjaaGreatGi
import Derived.Test.YtaolmfgpebncjaaGreatWt
set_option maxRecDepth 100000
set_option maxHeartbeats 3200000
set_option linter.unusedSimpArgs false
set_option linter.unusedVariables false
namespace Go.Proofs.YtaolmfgpebncjaaGreat
open Go.Av
attribute [local irreducible] T thenQ Uv Y0 Uz WX retV retR Gt Gts GtsP Qs CV CR Av.Pure
structure Hd where
 parent:List UInt8
 height:Int
 time:Int
 zeros:Int
 root:List UInt8
 nonce:Int
 deriving DecidableEq
abbrev Hd0:Hd:=⟨[],0,0,0,[],0⟩
abbrev hdA (x:Hd):AV:=.agg [byA x.parent,.int .i64 x.height,.int .i64 x.time,.int .i64 x.zeros,byA x.root,.int .i64 x.nonce]
abbrev hdAC (x:Hd):List AV:=[byA x.parent,.int .i64 x.height,.int .i64 x.time,.int .i64 x.zeros,byA x.root,.int .i64 x.nonce]
instance:ElemF hdA:=⟨λ a y hy=>by
 have h:=(inferInstance:CellsC (hdAC a)).out y hy
 exact h⟩
abbrev hdAS (l:List Hd):AV:=.ls 6 true false (l.map hdA)
def HdW (x:Hd):Nat:=x.parent.length + x.root.length
def HdR (x:Hd):Prop:=x.parent.length<=9223372036854775807/\x.root.length<=9223372036854775807
theorem szHead_cv (x:Hd) (left:Int) (hx:HdR x) (h0:0<=left) (h1:left<=9223372036854775807) :
  CV Tryz.prog 112 [hdA x,.int .i64 left] (· = .int .i64 (szAfter left (HdW x))):=by
 refine J7 Qc Tryz.func112 (by kernel_rfl) rfl 18 rfl (by simp) [.tmp 4] rfl ?_
 intro w0 ok0
 obtain ⟨hx0,hx1⟩:=hx
 have c0:=szByteS_cv x.parent (left) hx0 (by omega) (by omega)
 by_cases g0:left - (x.parent.length:Nat) < 0
 ·have e0:szAfter (left) (x.parent.length:Nat) = -1:=szAfter_neg g0
  rw [e0] at c0
  have f:szAfter left (HdW x:Nat) = -1:=szAfter_neg (by unfold HdW;omega)
  rw [f]
  have d:decide ((-1:Int) < 0) = true:=rfl
  repeat' (first|refine Qh ?_|refine Q9 ?_|refine J8 ?_|refine Q8 Qc ?_|refine Qi ?_|refine Qu ?_|(apply Jr;exact rfl;(· (repeat' (first|exact Qb _ _|exact Qj _|exact Qn _);done)))|(apply Jf;exact rfl;(· (first|assumption|exact rfl)))|apply Qd|apply Q2|(apply Jj;exact rfl;exact Q0 rfl;(iterate 3 exact rfl);(· (first|exact ⟨rfl,rfl⟩|exact ⟨rfl,trivial⟩|assumption)))|(apply J6;(iterate 4 exact rfl);exact Q0 rfl)|apply Jd|apply Yd|apply Qk (f:=65)|apply c0|exact Qa|apply Q3|(apply View.pure;exact Q4.out)|exact Jq.out|exact Q0 rfl|exact Ql|(apply Qg;exact Q0 rfl)|exact Q5 rfl rfl|assumption|exact rfl|fail)
 have e0:szAfter (left) (x.parent.length:Nat) = left - (x.parent.length:Nat):=by rw [szAfter_pos g0];try omega
 rw [e0] at c0
 have d0:decide (left - ((x.parent.length:Nat):Int) < 0) = false:=decide_eq_false (by omega)
 have c1:=szByteS_cv x.root (left - (x.parent.length:Nat)) hx1 (by omega) (by omega)
 by_cases g1:left - (x.parent.length:Nat) - (x.root.length:Nat) < 0
 ·have e1:szAfter (left - (x.parent.length:Nat)) (x.root.length:Nat) = -1:=szAfter_neg g1
  rw [e1] at c1
  have f:szAfter left (HdW x:Nat) = -1:=szAfter_neg (by unfold HdW;omega)
  rw [f]
  have d:decide ((-1:Int) < 0) = true:=rfl
  repeat' (first|refine Qh ?_|refine Q9 ?_|refine J8 ?_|refine Q8 Qc ?_|refine Qi ?_|refine Qw ?_|refine Qu ?_|(apply Jr;exact rfl;(· (repeat' (first|exact Qb _ _|exact Qj _|exact Qn _);done)))|(apply Jf;exact rfl;(· (first|assumption|exact rfl)))|(apply J9;exact rfl;(· (first|assumption|exact rfl)))|apply Qd|apply Q2|(apply Jj;exact rfl;exact Q0 rfl;(iterate 3 exact rfl);(· (first|exact ⟨rfl,rfl⟩|exact ⟨rfl,trivial⟩|assumption)))|(apply J6;(iterate 4 exact rfl);exact Q0 rfl)|apply Jd|apply Yd|apply Qk (f:=65)|apply c0|apply c1|exact Qa|apply Q3|(apply View.pure;exact Q4.out)|exact Jq.out|exact Q0 rfl|exact Ql|(apply Qg;exact Q0 rfl)|exact Q5 rfl rfl|assumption|exact rfl|fail)
 have e1:szAfter (left - (x.parent.length:Nat)) (x.root.length:Nat) = left - (x.parent.length + x.root.length:Nat):=by rw [szAfter_pos g1];try omega
 rw [e1] at c1
 have d1:decide (left - ((x.parent.length + x.root.length:Nat):Int) < 0) = false:=decide_eq_false (by omega)
 have f:szAfter left (HdW x:Nat) = left - (x.parent.length + x.root.length:Nat):=szAfter_pos (by unfold HdW;omega)
 rw [f]
 repeat' (first|refine Qh ?_|refine Q9 ?_|refine Q8 Qc ?_|refine Qi ?_|refine Qw ?_|refine Qu ?_|(apply Jr;exact rfl;(· (repeat' (first|exact Qb _ _|exact Qj _|exact Qn _);done)))|(apply J9;exact rfl;(· (first|assumption|exact rfl)))|apply Qd|apply Q2|(apply Jj;exact rfl;exact Q0 rfl;(iterate 3 exact rfl);(· (first|exact ⟨rfl,rfl⟩|exact ⟨rfl,trivial⟩|assumption)))|(apply J6;(iterate 4 exact rfl);exact Q0 rfl)|apply Jd|apply Yd|apply Qk (f:=65)|apply c0|apply c1|exact Qa|apply Q3|(apply View.pure;exact Q4.out)|exact Jq.out|exact Q0 rfl|exact Ql|(apply Qg;exact Q0 rfl)|exact Q5 rfl rfl|exact rfl|fail)
theorem eqHead_cv (x:Hd) (h:HdW x<=1048576):CV Tryz.prog 120 [hdA x,hdA x] (· = .bool true):=by
 refine J7 Qc Tryz.func120 (by kernel_rfl) rfl 37 rfl (by simp) [.tmp 4] rfl ?_
 intro w0 ok0
 unfold HdW at h
 have c0:=eqB_cv x.parent (by omega)
 have c1:=eqB_cv x.root (by omega)
 have i1:(!decide (x.height = x.height)) = false:=by simp
 have i2:(!decide (x.time = x.time)) = false:=by simp
 have i3:(!decide (x.zeros = x.zeros)) = false:=by simp
 have i5:(!decide (x.nonce = x.nonce)) = false:=by simp
 repeat' (first|refine Qh ?_|refine Q9 ?_|refine Q8 Qc ?_|refine Qi ?_|refine Qw ?_|refine Qu ?_|(apply Jr;exact rfl;(· (repeat' (first|exact Qb _ _|exact Qj _|exact Qn _);done)))|(apply J9;exact rfl;(· (first|assumption|exact rfl)))|apply Q2|(apply Jj;exact rfl;exact Q0 rfl;(iterate 3 exact rfl);(· (first|exact ⟨rfl,rfl⟩|exact ⟨rfl,trivial⟩|assumption)))|(apply J6;(iterate 4 exact rfl);exact Q0 rfl)|(apply Y4;exact Q0 rfl;exact Q0 rfl)|apply S_not|apply Yd|apply Qk (f:=34)|apply c0|apply c1|exact Qa|apply Q3|(apply View.pure;exact Q4.out)|exact Jq.out|exact Q0 rfl|exact Ql|(apply Qg;exact Q0 rfl)|exact Q5 rfl rfl|exact rfl|fail)
structure Cli where
 heads:List Hd
 depth:Int
 deriving DecidableEq
abbrev Cli0:Cli:=⟨[],0⟩
abbrev cliA (x:Cli):AV:=.agg [hdAS x.heads,.int .i64 x.depth]
abbrev cliAC (x:Cli):List AV:=[hdAS x.heads,.int .i64 x.depth]
instance:ElemF cliA:=⟨λ a y hy=>by
 have h:=(inferInstance:CellsC (cliAC a)).out y hy
 exact h⟩
abbrev cliAS (l:List Cli):AV:=.ls 2 true false (l.map cliA)
def CliW (x:Cli):Nat:=Y9 HdW x.heads
def CliR (x:Cli):Prop:=listR HdR x.heads
end Go.Proofs.YtaolmfgpebncjaaGreat
set_option maxRecDepth 100000
set_option maxHeartbeats 3200000
set_option linter.unusedSimpArgs false
set_option linter.unusedVariables false
namespace Go.Proofs.YtaolmfgpebncjaaGreat
open Go.Av
attribute [local irreducible] T thenQ Uv Y0 Uz WX retV retR Gt Gts GtsP Qs CV CR Av.Pure
abbrev arU (l:List UInt32):AV:=.agg (l.map u32A)
abbrev arW (l:List UInt32):AV:=.agg (l.map w64A)
theorem rotl_cv (x:UInt32) (n:Nat) (h0:0 < n) (h1:n < 32):CV Tryz.prog 192 [u32A x,.int .i64 (-(n:Int))] (· = u32A (rotr x n)):=by
 refine J7 Qc Tryz.func192 (by kernel_rfl) rfl 17 rfl (by simp) [.tmp 4] rfl ?_
 intro w0 ok0
 have f1:=rot_cnt n h0 h1
 have f2:=rot_and ⟨n,h1⟩ h0
 simp only at f2
 have f3:IntKind.wrap .u32 ((x.toNat:Int) * 2 ^ min ((32:Int) - (n:Int)).toNat IntKind.u32.bits) = IntKind.wrap .u32 ((x.toNat:Int) * 2 ^ (32 - n)):=by
  rw [show ((32:Int) - (n:Int)).toNat = 32 - n by omega,show IntKind.u32.bits = 32 from rfl,Nat.min_eq_left (by omega)]
 have f4:IntKind.wrap .u64 (32 - (32 - (n:Int))) = (n:Int):=by rw [wrap_u64 (by omega) (by omega)];omega
 have f5:(x.toNat:Int).fdiv (2 ^ min ((n:Int)).toNat IntKind.u32.bits) = (x.toNat:Int).fdiv (2 ^ n):=by
  rw [Int.toNat_natCast,show IntKind.u32.bits = 32 from rfl,Nat.min_eq_left (by omega)]
 have f6:=rot_or x n h0 h1
 repeat' (first|refine Qh ?_|refine Q9 ?_|refine Q8 Qc ?_|refine Qi ?_|refine Qu ?_|(apply Jr;exact rfl;(· (repeat' (first|exact Qb _ _|exact Qj _|exact Qn _);done)))|apply Qd|apply Q2|apply S_sub|(apply S_conv;exact rfl;exact rfl;exact Q0 rfl)|apply S_shlW|apply S_shrW|(apply S_bits;(· (first|exact Or.inl rfl|exact Or.inr (Or.inl rfl)|exact Or.inr (Or.inr (Or.inl rfl))|exact Or.inr (Or.inr (Or.inr rfl)))))|exact Q0 rfl|assumption|omega|exact rfl|fail)
theorem turn_cv (x:UInt32) (n:Nat) (h0:0 < n) (h1:n < 32):CV Tryz.prog 199 [u32A x,.int .i64 (n:Int)] (· = u32A (rotr x n)):=by
 refine J7 Qc Tryz.func199 (by kernel_rfl) rfl 9 rfl (by simp) [.tmp 4] rfl ?_
 intro w0 ok0
 have c0:=rotl_cv x n h0 h1
 have f1:IntKind.wrap .i64 (0 - (n:Int)) = -(n:Int):=by rw [wrap_i64 (by omega) (by omega)];omega
 repeat' (first|refine Qh ?_|refine Q9 ?_|refine Q8 Qc ?_|refine Qi ?_|refine Qu ?_|(apply Jr;exact rfl;(· (repeat' (first|exact Qb _ _|exact Qj _|exact Qn _);done)))|(apply S_neg;exact Q0 rfl)|apply Qd|apply Q2|apply Jl (f:=192)|apply c0|exact Qe.out|exact Q0 rfl|exact Ql|(apply Qg;exact Q0 rfl)|assumption|exact rfl|fail)
theorem list8 {l:List UInt32} (hl:l.length = 8):∃ a b c d e f g h,l = [a,b,c,d,e,f,g,h]:=by
 match l,hl with
 | [a,b,c,d,e,f,g,h],_=>exact ⟨a,b,c,d,e,f,g,h,rfl⟩
theorem mixed_cv (l:List UInt32) (hl:l.length = 8) (w k:UInt32):CV Tryz.prog 194 [arU l,u32A w,u32A k] (· = arU (mixL l w k)):=by
 obtain ⟨a,b,c,d,e,f,g,h,rfl⟩:=list8 hl
 refine J7 Qc Tryz.func194 (by kernel_rfl) rfl 90 rfl (by simp) [.cell 6 175] rfl ?_
 intro w0 ok0
 have c6:=turn_cv e 6 (by decide) (by decide)
 have c11:=turn_cv e 11 (by decide) (by decide)
 have c25:=turn_cv e 25 (by decide) (by decide)
 have c2:=turn_cv a 2 (by decide) (by decide)
 have c13:=turn_cv a 13 (by decide) (by decide)
 have c22:=turn_cv a 22 (by decide) (by decide)
 have okk:Qs 8 (arU [a,b,c,d,e,f,g,h]):=okCells_arr _ _ rfl
 repeat' (first|refine Qh ?_|refine Q9 ?_|refine Q8 Qc ?_|(apply Ur Qc Uw;(· kernel_rfl))|refine Qi ?_|refine Qu ?_|(apply E_X<;>repeat' (first|exact J4|(apply J3;exact rfl)|(apply Qx;(iterate 6 exact rfl))|(apply J5;(iterate 4 exact rfl);(· (first|assumption|exact rfl)))|(apply view_aggP;exact Qe.out)|exact Qa|apply Q3|apply Jb|(apply Uu;exact rfl;(· first|exact rfl|assumption|(simp [Q1];done)|(simp [Q1];omega)|omega);exact Q6.out)|(apply U8;exact Q6.out)|apply Uh|apply Ul|(apply View.ofEq;exact Q4.out)|exact rfl))|(apply M_idxAP;exact rfl;exact rfl;exact Q0 rfl;exact Q0 rfl;(· (first|assumption|exact ⟨by omega,by omega⟩));(· (apply mix;first|assumption|exact rfl)))|(apply M_loadAr;exact rfl;exact Q0 rfl;exact rfl;(· (first|assumption|exact rfl));(· (first|exact ⟨rfl,rfl⟩|exact ⟨rfl,trivial⟩|assumption)))|(apply S_buildAL Qc;(iterate 4 exact rfl);(· repeat' (first|exact U4|(apply Ug;exact Q0 rfl)));exact rfl;(· infer_instance))|apply Qd|apply Q2|apply Y7|apply U0|apply Yd|(apply Jg;exact rfl;exact Q0 rfl;(iterate 4 exact rfl))|(apply S_bits;(· (first|exact Or.inl rfl|exact Or.inr (Or.inl rfl)|exact Or.inr (Or.inr (Or.inl rfl))|exact Or.inr (Or.inr (Or.inr rfl)))))|apply S_xor1|apply S_callQC|apply c6|apply c11|apply c25|apply c2|apply c13|apply c22|exact Qa|apply Q3|(apply View.pure;exact Q4.out)|exact Jq.out|with_reducible apply Go.Av.u32_add|with_reducible apply Go.Av.u32_xor|with_reducible apply Go.Av.u32_and|with_reducible apply Go.Av.u32_not|exact Q0 rfl|exact Ql|(apply Qg;exact Q0 rfl)|exact Q5 rfl rfl|exact rfl|fail)
end Go.Proofs.YtaolmfgpebncjaaGreat
