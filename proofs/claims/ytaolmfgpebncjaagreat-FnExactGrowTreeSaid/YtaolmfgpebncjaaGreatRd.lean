/- Blocks, as the helpers of the laws take them. -/
import Derived.Test.YtaolmfgpebncjaaGreatZx
import Derived.Test.YtaolmfgpebncjaaGreatXa
set_option maxRecDepth 100000
set_option maxHeartbeats 3200000
set_option linter.unusedSimpArgs false
set_option linter.unusedVariables false
namespace Go.Proofs.YtaolmfgpebncjaaGreat
open Go.Av
attribute [local irreducible] T thenQ Uv Y0 Uz WX retV retR Gt Gts GtsP Qs CV CR Av.Pure
attribute [local irreducible] sha zerosL lz8 hdD Jw zerosN hardF firstB
theorem joined_nil {hs:List Hd}:Joined (hs.take 0):=⟨λ x hx=>by simp at hx,λ i h1 h2=>by simp at h2⟩
theorem parI_take (hs:List Hd) {i m:Nat} (h:i < m):parI (hs.take m) i = parI hs i:=by
 unfold parI
 rw [List.take_take,Nat.min_eq_left (by omega),getD_take hs Hd0 h]
theorem joined_step {hs:List Hd} {k:Nat} (hk:k < hs.length) (hJ:Joined (hs.take k)):Jw (hs.getD k Hd0) = 0->(k = 0∨joinF (hs.take k) (hs.getD k Hd0) = 0)->Joined (hs.take (k + 1)):=by
 intro h1 h2
 have e:hs.take (k + 1) = hs.take k++[hs.getD k Hd0]:=by rw [List.take_add_one,List.getElem?_eq_getElem hk,List.getD_eq_getElem?_getD,List.getElem?_eq_getElem hk];rfl
 refine ⟨λ x hx=>?_,λ i hi hl=>?_⟩
 ·rw [e] at hx
  rcases List.mem_append.1 hx with hx|hx
  ·exact hJ.1 x hx
  ·rw [List.mem_singleton.1 hx];exact h1
 ·rw [List.length_take] at hl
  rw [parI_take hs (by omega)]
  by_cases hik:i < k
  ·have:=hJ.2 i hi (by rw [List.length_take];omega)
   rw [parI_take hs hik] at this
   exact this
  ·obtain rfl:i = k:=by omega
   rcases h2 with h2|h2
   ·omega
   ·unfold joinF at h2
    split at h2
    ·cases h2
    ·split at h2
     ·cases h2
     ·rename_i q
      unfold parI
      omega
attribute [local irreducible] parI joinF
def stepF (pre:List Hd) (x:Hd) (i:Nat):Int:=if hardF x≠0 then hardF x else if i = 0 then (if firstB x = true then 0 else 1) else joinF pre x
def cliStep (hs:List Hd) (i:Nat):Int:=stepF (hs.take i) (hs.getD i Hd0) i
def cliGo (hs:List Hd):Nat->Nat->Int
 | 0,_=>0
 | n + 1,i=>if cliStep hs i = 0 then cliGo hs n (i + 1) else cliStep hs i
def cliFault (c:Cli):Int :=
 if ¬ (1<=c.depth/\c.depth<=6) then 3 else if c.heads.length = 0 then 4 else if 24 < c.heads.length then 2 else cliGo c.heads c.heads.length 0
end Go.Proofs.YtaolmfgpebncjaaGreat
set_option maxRecDepth 100000
set_option maxHeartbeats 3200000
set_option linter.unusedSimpArgs false
set_option linter.unusedVariables false
namespace Go.Proofs.YtaolmfgpebncjaaGreat
open Go.Av
attribute [local irreducible] T thenQ Uv Y0 Uz WX retV retR Gt Gts GtsP Qs CV CR Av.Pure
attribute [local irreducible] sha zerosL lz8 hdD Jw zerosN hardF firstB wayD chainL
def wt1 (x:Hd):Int:=((2 ^ x.zeros.toNat:Nat):Int)
def wtUp (c:List Hd):Nat->Int
 | 0=>0
 | k + 1=>wtUp c k + wt1 (c.getD k Hd0)
def wtL (c:List Hd):Int:=wtUp c c.length
attribute [local irreducible] wtUp wt1
def bestUp (hs:List Hd):Nat->Nat×Int
 | 0=>(0,-1)
 | k + 1=>if (bestUp hs k).2 < wtL (chainL hs k) then (k,wtL (chainL hs k)) else bestUp hs k
def bestL (hs:List Hd):Nat:=(bestUp hs hs.length).1
attribute [local irreducible] bestUp wtL
end Go.Proofs.YtaolmfgpebncjaaGreat
set_option maxRecDepth 100000
set_option maxHeartbeats 3200000
set_option linter.unusedSimpArgs false
set_option linter.unusedVariables false
namespace Go.Proofs.YtaolmfgpebncjaaGreat
open Go.Av
attribute [local irreducible] T thenQ Uv Y0 Uz WX retV retR Gt Gts GtsP Qs CV CR Av.Pure
attribute [local irreducible] sha zerosL lz8 hdD Jw zerosN hardF firstB wayD chainL bestUp wtL joinF
attribute [local irreducible] cliFault
def mainL (hs:List Hd):List Nat:=(wayD hs (bestL hs)).reverse
def tipV (c:Cli):Int:=if cliFault c = 0 then (bestL c.heads:Int) else 0
end Go.Proofs.YtaolmfgpebncjaaGreat
set_option maxRecDepth 100000
set_option maxHeartbeats 3200000
set_option linter.unusedSimpArgs false
set_option linter.unusedVariables false
namespace Go.Proofs.YtaolmfgpebncjaaGreat
open Go.Av
attribute [local irreducible] T thenQ Uv Y0 Uz WX retV retR Gt Gts GtsP Qs CV CR Av.Pure
structure Blk where
 head:Hd
 events:List (List UInt8)
 deriving DecidableEq
abbrev Blk0:Blk:=⟨⟨[],0,0,0,[],0⟩,[]⟩
abbrev blkA (x:Blk):AV:=.agg [byA x.head.parent,.int .i64 x.head.height,.int .i64 x.head.time,.int .i64 x.head.zeros,byA x.head.root,.int .i64 x.head.nonce,Y2 x.events]
abbrev blkAC (x:Blk):List AV:=[byA x.head.parent,.int .i64 x.head.height,.int .i64 x.head.time,.int .i64 x.head.zeros,byA x.head.root,.int .i64 x.head.nonce,Y2 x.events]
instance:ElemF blkA:=⟨λ a y hy=>by
 have h:=(inferInstance:CellsC (blkAC a)).out y hy
 exact h⟩
abbrev blkAS (l:List Blk):AV:=.ls 7 true false (l.map blkA)
def BlkW (x:Blk):Nat:=HdW x.head + Y9 List.length x.events
def BlkR (x:Blk):Prop:=HdR x.head/\rowsR x.events
theorem szBlock_cv (x:Blk) (left:Int) (hx:BlkR x) (h0:0<=left) (h1:left<=9223372036854775807) :
  CV Tryz.prog 51 [blkA x,.int .i64 left] (· = .int .i64 (szAfter left (BlkW x))):=by
 refine J7 Qc Tryz.func51 (by kernel_rfl) rfl 18 rfl (by simp) [.tmp 4] rfl ?_
 intro w0 ok0
 obtain ⟨hx0,hx1⟩:=hx
 have c0:=szHead_cv x.head (left) hx0 (by omega) (by omega)
 by_cases g0:left - (HdW x.head:Nat) < 0
 ·have e0:szAfter (left) (HdW x.head:Nat) = -1:=szAfter_neg g0
  rw [e0] at c0
  have f:szAfter left (BlkW x:Nat) = -1:=szAfter_neg (by unfold BlkW;omega)
  rw [f]
  have d:decide ((-1:Int) < 0) = true:=rfl
  repeat' (first|refine Qh ?_|refine Q9 ?_|refine J8 ?_|refine Q8 Qc ?_|refine Qi ?_|refine Qu ?_|(apply Jr;exact rfl;(· (repeat' (first|exact Qb _ _|exact Qj _|exact Qn _);done)))|(apply Jf;exact rfl;(· (first|assumption|exact rfl)))|apply Qd|apply Q2|(apply M_loadA;exact rfl;exact rfl;exact Q0 rfl;exact rfl;exact rfl;(· (repeat' constructor)))|(apply J6;(iterate 4 exact rfl);exact Q0 rfl)|apply Jd|apply Yd|apply Qk (f:=112)|apply c0|exact Qa|apply Q3|(apply View.pure;exact Q4.out)|exact Jq.out|exact Q0 rfl|exact Ql|(apply Qg;exact Q0 rfl)|exact Q5 rfl rfl|assumption|exact rfl|fail)
 have e0:szAfter (left) (HdW x.head:Nat) = left - (HdW x.head:Nat):=by rw [szAfter_pos g0];try omega
 rw [e0] at c0
 have d0:decide (left - ((HdW x.head:Nat):Int) < 0) = false:=decide_eq_false (by omega)
 have c1:=szByteSS_cv x.events (left - (HdW x.head:Nat)) hx1 (by omega) (by omega)
 by_cases g1:left - (HdW x.head:Nat) - (Y9 List.length x.events:Nat) < 0
 ·have e1:szAfter (left - (HdW x.head:Nat)) (Y9 List.length x.events:Nat) = -1:=szAfter_neg g1
  rw [e1] at c1
  have f:szAfter left (BlkW x:Nat) = -1:=szAfter_neg (by unfold BlkW;omega)
  rw [f]
  have d:decide ((-1:Int) < 0) = true:=rfl
  repeat' (first|refine Qh ?_|refine Q9 ?_|refine J8 ?_|refine Q8 Qc ?_|refine Qi ?_|refine Qw ?_|refine Qu ?_|(apply Jr;exact rfl;(· (repeat' (first|exact Qb _ _|exact Qj _|exact Qn _);done)))|(apply Jf;exact rfl;(· (first|assumption|exact rfl)))|(apply J9;exact rfl;(· (first|assumption|exact rfl)))|apply Qd|apply Q2|(apply Jj;exact rfl;exact Q0 rfl;(iterate 3 exact rfl);(· (first|exact ⟨rfl,rfl⟩|exact ⟨rfl,trivial⟩|assumption)))|(apply M_loadA;exact rfl;exact rfl;exact Q0 rfl;exact rfl;exact rfl;(· (repeat' constructor)))|(apply J6;(iterate 4 exact rfl);exact Q0 rfl)|apply Jd|apply Yd|apply Qk (f:=112)|apply c0|apply Qk (f:=17)|apply c1|exact Qa|apply Q3|(apply View.pure;exact Q4.out)|exact Jq.out|exact Q0 rfl|exact Ql|(apply Qg;exact Q0 rfl)|exact Q5 rfl rfl|assumption|exact rfl|fail)
 have e1:szAfter (left - (HdW x.head:Nat)) (Y9 List.length x.events:Nat) = left - (HdW x.head + Y9 List.length x.events:Nat):=by rw [szAfter_pos g1];try omega
 rw [e1] at c1
 have d1:decide (left - ((HdW x.head + Y9 List.length x.events:Nat):Int) < 0) = false:=decide_eq_false (by omega)
 have f:szAfter left (BlkW x:Nat) = left - (HdW x.head + Y9 List.length x.events:Nat):=szAfter_pos (by unfold BlkW;omega)
 rw [f]
 repeat' (first|refine Qh ?_|refine Q9 ?_|refine Q8 Qc ?_|refine Qi ?_|refine Qw ?_|refine Qu ?_|(apply Jr;exact rfl;(· (repeat' (first|exact Qb _ _|exact Qj _|exact Qn _);done)))|(apply J9;exact rfl;(· (first|assumption|exact rfl)))|apply Qd|apply Q2|(apply Jj;exact rfl;exact Q0 rfl;(iterate 3 exact rfl);(· (first|exact ⟨rfl,rfl⟩|exact ⟨rfl,trivial⟩|assumption)))|(apply M_loadA;exact rfl;exact rfl;exact Q0 rfl;exact rfl;exact rfl;(· (repeat' constructor)))|(apply J6;(iterate 4 exact rfl);exact Q0 rfl)|apply Jd|apply Yd|apply Qk (f:=112)|apply c0|apply Qk (f:=17)|apply c1|exact Qa|apply Q3|(apply View.pure;exact Q4.out)|exact Jq.out|exact Q0 rfl|exact Ql|(apply Qg;exact Q0 rfl)|exact Q5 rfl rfl|exact rfl|fail)
theorem eqBlock_cv (x:Blk) (h:BlkW x<=1048576):CV Tryz.prog 61 [blkA x,blkA x] (· = .bool true):=by
 refine J7 Qc Tryz.func61 (by kernel_rfl) rfl 17 rfl (by simp) [.tmp 4] rfl ?_
 intro w0 ok0
 unfold BlkW at h
 have c0:=eqHead_cv x.head (by omega)
 have c1:=eqByteSS_cv x.events (by omega)
 repeat' (first|refine Qh ?_|refine Q9 ?_|refine Q8 Qc ?_|refine Qi ?_|refine Qw ?_|refine Qu ?_|(apply Jr;exact rfl;(· (repeat' (first|exact Qb _ _|exact Qj _|exact Qn _);done)))|(apply J9;exact rfl;(· (first|assumption|exact rfl)))|apply Q2|(apply Jj;exact rfl;exact Q0 rfl;(iterate 3 exact rfl);(· (first|exact ⟨rfl,rfl⟩|exact ⟨rfl,trivial⟩|assumption)))|(apply M_loadA;exact rfl;exact rfl;exact Q0 rfl;exact rfl;exact rfl;(· (repeat' constructor)))|(apply J6;(iterate 4 exact rfl);exact Q0 rfl)|apply S_not|apply Yd|apply Qk (f:=120)|apply c0|apply Qk (f:=22)|apply c1|exact Qa|apply Q3|(apply View.pure;exact Q4.out)|exact Jq.out|exact Q0 rfl|exact Ql|(apply Qg;exact Q0 rfl)|exact Q5 rfl rfl|exact rfl|fail)
theorem elemBlock {x:AV} {ei:TI} {n:Nat} (hk:Ut ei.k = true) (h:TyN ty (n + 3) 87 x.cells/\x = (if Ut ei.k then .agg x.cells else x.cells.getD 0 .undef)):∃ a:Blk,x = blkA a/\BlkR a:=by
 obtain ⟨⟨ls,h1,h2,h3⟩,h4⟩:=h
 have hl:leafs ty 8 87 = some [37,2,2,2,37,2,35]:=rfl
 rw [hl] at h1
 obtain rfl:=Option.some.inj h1
 rw [if_pos hk] at h4
 generalize x.cells = cs at h2 h3 h4
 subst h4
 match cs,h2 with
 | [a0,a1,a2,a3,a4,a5,a6],_ =>
   obtain ⟨e0,xs0,u0,rfl,v0,w0⟩:=h3 0 _ _ rfl rfl
   obtain rfl:=Option.some.inj u0
   obtain ⟨q0,rfl⟩:=bytes_of rfl rfl rfl xs0 w0
   rw [Q1] at v0
   obtain ⟨i1,rfl,_⟩:=h3 1 _ _ rfl rfl
   obtain ⟨i2,rfl,_⟩:=h3 2 _ _ rfl rfl
   obtain ⟨i3,rfl,_⟩:=h3 3 _ _ rfl rfl
   obtain ⟨e4,xs4,u4,rfl,v4,w4⟩:=h3 4 _ _ rfl rfl
   obtain rfl:=Option.some.inj u4
   obtain ⟨q4,rfl⟩:=bytes_of rfl rfl rfl xs4 w4
   rw [Q1] at v4
   obtain ⟨i5,rfl,_⟩:=h3 5 _ _ rfl rfl
   obtain ⟨e6,xs6,u6,rfl,v6,w6⟩:=h3 6 _ _ rfl rfl
   obtain rfl:=Option.some.inj u6
   obtain ⟨q6,rfl,z6⟩:=rows_of xs6 w6
   rw [List.length_map] at v6
   exact ⟨⟨⟨q0,i1,i2,i3,q4,i5⟩,q6⟩,rfl,⟨⟨v0,v4⟩,⟨v6,z6⟩⟩⟩
theorem szBlockS_cv (l:List Blk) (left:Int) (hx:listR BlkR l) (h0:0<=left) (h1:left<=9223372036854775807) :
  CV Tryz.prog 8 [blkAS l,.int .i64 left] (· = .int .i64 (szAfter left (Y9 BlkW l))):=by
 refine J7 Qc Tryz.func8 (by kernel_rfl) rfl 27 rfl (by simp) [.tmp 4] rfl ?_
 intro w0 ok0
 have hl:(l.map blkA).length = l.length:=by simp
 obtain ⟨hn,hall⟩:=hx
 have hw0:IntKind.wrap .i64 (left - ((l.map blkA).length:Int)) = left - (l.length:Int):=by rw [wrap_i64 (by omega) (by omega)];omega
 by_cases g:left - (l.length:Int) < 0
 ·have d:decide (left - (l.length:Int) < 0) = true:=decide_eq_true g
  have f:szAfter left (Y9 BlkW l:Nat) = -1:=szAfter_neg (by unfold Y9;omega)
  rw [f]
  repeat' (first|refine Qh ?_|refine Q9 ?_|refine J8 ?_|refine Q8 Qc ?_|refine Qi ?_|refine Qu ?_|(apply Jr;exact rfl;(· (repeat' (first|exact Qb _ _|exact Qj _|exact Qn _);done)))|(apply Jf;exact rfl;(· (first|assumption|exact rfl)))|apply Qd|apply Q2|apply Jd|apply S_sub|(apply Qp;exact rfl;exact Q0 rfl)|exact Q0 rfl|assumption|exact rfl|fail)
 have d:decide (left - (l.length:Int) < 0) = false:=decide_eq_false g
 repeat' (first|refine Qh ?_|refine Q9 ?_|refine Q8 Qc ?_|refine Qi ?_|refine Qw ?_|refine Qo ?_|(apply J9;exact rfl;(· (first|assumption|exact rfl)))|apply Qd|apply Q2|apply Jd|apply S_sub|(apply Qp;exact rfl;exact Q0 rfl)|exact Q0 rfl|assumption|exact rfl|fail)
 refine Js (α:=Nat) (λ k=>⟨[(0,blkAS l),(1,.int .i64 (left - (l.length:Int) - (sumW BlkW (l.take k):Int))),(5,.int .i64 k)],[],0⟩)
  (λ k=>l.length - k) (λ k=>k<=l.length/\0<=left - (l.length:Int) - (sumW BlkW (l.take k):Int)) 0 ?_ ⟨by omega,by simp [sumW];omega⟩ ?_
 ·have e:left - (l.length:Int) - (sumW BlkW (l.take 0):Int) = left - (l.length:Int):=by simp [sumW]
  rw [e]
  exact ((Jp (by repeat' (first|exact Qy|refine Qr rfl ?_)) (by repeat' (first|exact Qz|refine Qt (by first|rfl|exact congrArg (λ l=>some (Box.mk l _ _ _)) hset) ?_)) (Nat.le_refl _))).sub
 rintro k ⟨hk,hI⟩
 by_cases hkl:k < l.length
 ·have hc:decide ((k:Int) < ((l.map blkA).length:Int)) = true:=by simp only [decide_eq_true_eq];omega
  have hget:=Uy blkA l Blk0 (k:=k) (by omega)
  have hkw:IntKind.wrap .i64 ((k:Int) + 1) = ((k + 1:Nat):Int):=by rw [wrap_i64 (by omega) (by omega)];omega
  have hs:=sumW_take BlkW l Blk0 hkl
  have hr:=hall _ (getD_mem l Blk0 hkl)
  have hle:=sumW_le BlkW l (k + 1)
  generalize l.getD k Blk0 = x at *
  have c0:=szBlock_cv x (left - (l.length:Int) - (sumW BlkW (l.take k):Int)) hr (by omega) (by omega)
  by_cases g2:left - (l.length:Int) - (sumW BlkW (l.take k):Int) - ((BlkW x:Nat):Int) < 0
  ·rw [szAfter_neg g2] at c0
   have d2:decide ((-1:Int) < 0) = true:=rfl
   have f:szAfter left (Y9 BlkW l:Nat) = -1:=szAfter_neg (by unfold Y9;omega)
   rw [f]
   repeat' (first|refine Qh ?_|refine Q9 ?_|refine J8 ?_|refine Ui ?_|refine Ya ?_|refine Q8 Qc ?_|refine Qi ?_|refine Qw ?_|refine Qu ?_|refine Qo ?_|(apply Jr;exact rfl;(· (repeat' (first|exact Qb _ _|exact Qj _|exact Qn _);done)))|(apply Jf;exact rfl;(· (first|assumption|exact rfl)))|apply Qd|apply Q2|(apply Uo;exact rfl;exact Q0 rfl;exact rfl;exact rfl)|apply Jd|(apply Qp;exact rfl;exact Q0 rfl)|(apply Jk;exact rfl;exact rfl;exact Q0 rfl;exact Q0 rfl)|apply Qk (f:=51)|apply c0|exact Qa|apply Q3|(apply View.pure;exact Q4.out)|exact Jq.out|exact Q0 rfl|exact Ql|(apply Qg;exact Q0 rfl)|assumption|(refine ⟨?_,?_⟩<;>omega)|exact rfl|fail)
  ·rw [szAfter_pos g2] at c0
   have d2:decide (left - (l.length:Int) - (sumW BlkW (l.take k):Int) - ((BlkW x:Nat):Int) < 0) = false:=decide_eq_false g2
   have e:left - (l.length:Int) - (sumW BlkW (l.take k):Int) - ((BlkW x:Nat):Int) = left - (l.length:Int) - (sumW BlkW (l.take (k + 1)):Int):=by omega
   rw [e] at c0 d2
   repeat' (first|refine Qh ?_|refine Q9 ?_|refine U9 ?_|refine Q8 Qc ?_|refine Qi ?_|refine Qw ?_|refine Qo ?_|(apply Jf;exact rfl;(· (first|assumption|exact rfl)))|(apply J9;exact rfl;(· (first|assumption|exact rfl)))|apply Qd|apply Q2|(apply Uo;exact rfl;exact Q0 rfl;exact rfl;exact rfl)|apply Jd|apply Y7|(apply Qp;exact rfl;exact Q0 rfl)|(apply Jk;exact rfl;exact rfl;exact Q0 rfl;exact Q0 rfl)|apply Qk (f:=51)|apply c0|exact Qa|apply Q3|(apply View.pure;exact Q4.out)|exact Jq.out|exact Q0 rfl|exact Ql|(apply Qg;exact Q0 rfl)|assumption|(refine ⟨?_,?_⟩<;>omega)|exact rfl|fail)
   exact U7 (k + 1) ((Jp (by repeat' (first|exact Qy|refine Qr rfl ?_)) (by repeat' (first|exact Qz|refine Qt (by first|rfl|exact congrArg (λ l=>some (Box.mk l _ _ _)) hset) ?_)) (Nat.le_refl _))).sub ⟨by omega,by omega⟩ (by omega)
 ·have hc:decide ((k:Int) < ((l.map blkA).length:Int)) = false:=by simp only [decide_eq_false_iff_not];omega
  obtain rfl:k = l.length:=by omega
  rw [List.take_length] at hI ⊢
  have f:szAfter left (Y9 BlkW l:Nat) = left - (l.length:Int) - (sumW BlkW l:Int):=by rw [szAfter_pos (by unfold Y9;omega)];unfold Y9;omega
  rw [f]
  repeat' (first|refine Qh ?_|refine Q9 ?_|refine Ua ?_|refine Jt ?_|refine Jo ?_|refine Q8 Qc ?_|refine Qi ?_|refine Qu ?_|refine Un ?_|(apply Jr;exact rfl;(· (repeat' (first|exact Qb _ _|exact Qj _|exact Qn _);done)))|(apply J9;exact rfl;(· (first|assumption|exact rfl)))|apply Qd|apply Q2|apply Jd|(apply Qp;exact rfl;exact Q0 rfl)|exact Q0 rfl|exact rfl|fail)
theorem eqBlockS_cv (l:List Blk) (h:Y9 BlkW l<=1048576):CV Tryz.prog 13 [blkAS l,blkAS l] (· = .bool true):=by
 refine J7 Qc Tryz.func13 (by kernel_rfl) rfl 27 rfl (by simp) [.tmp 4] rfl ?_
 intro w0 ok0
 have hl:(l.map blkA).length = l.length:=by simp
 have hll:l.length<=1048576:=by unfold Y9 at h;omega
 have hc0:(!decide (((l.map blkA).length:Int) = ((l.map blkA).length:Int))) = false:=by simp
 repeat' (first|refine Qh ?_|refine Q9 ?_|refine Q8 Qc ?_|refine Qi ?_|refine Qw ?_|refine Qo ?_|(apply J9;exact rfl;(· (first|assumption|exact rfl)))|apply Qd|apply Q2|(apply Y4;exact Q0 rfl;exact Q0 rfl)|(apply Qp;exact rfl;exact Q0 rfl)|exact Q0 rfl|exact rfl|fail)
 refine Js (α:=Nat) (λ k=>⟨[(0,blkAS l),(1,blkAS l),(5,.int .i64 k)],[],0⟩)
  (λ k=>l.length - k) (λ k=>k<=l.length) 0 ((Jp (by repeat' (first|exact Qy|refine Qr rfl ?_)) (by repeat' (first|exact Qz|refine Qt (by first|rfl|exact congrArg (λ l=>some (Box.mk l _ _ _)) hset) ?_)) (Nat.le_refl _))).sub (by omega) ?_
 intro k hk
 by_cases hkl:k < l.length
 ·have hc:decide ((k:Int) < ((l.map blkA).length:Int)) = true:=by simp only [decide_eq_true_eq];omega
  have hget:=Uy blkA l Blk0 (k:=k) (by omega)
  have hkw:IntKind.wrap .i64 ((k:Int) + 1) = ((k + 1:Nat):Int):=by rw [wrap_i64 (by omega) (by omega)];omega
  have hle:=listW_mem BlkW l (getD_mem l Blk0 hkl)
  have c0:=eqBlock_cv (l.getD k Blk0) (by omega)
  repeat' (first|refine Qh ?_|refine Q9 ?_|refine U9 ?_|refine Q8 Qc ?_|(apply T_drawM (id:=6) 8 Qc Uw;exact rfl;exact rfl;(· kernel_rfl);exact Nat.le_of_ble_eq_true rfl)|refine Qi ?_|refine Qw ?_|refine Qo ?_|(apply Jf;exact rfl;(· (first|assumption|exact rfl)))|(apply J9;exact rfl;(· (first|assumption|exact rfl)))|apply Qd|apply Q2|(apply Uo;exact rfl;exact Q0 rfl;exact rfl;exact rfl)|apply Jd|apply Y7|apply S_not|(apply Qp;exact rfl;exact Q0 rfl)|(apply Jk;exact rfl;exact rfl;exact Q0 rfl;exact Q0 rfl)|apply Qk (f:=61)|apply c0|exact Qa|apply Q3|(apply View.pure;exact Q4.out)|exact Jq.out|exact Q0 rfl|exact Ql|(apply Qg;exact Q0 rfl)|assumption|(refine ⟨?_,?_⟩<;>omega)|exact rfl|fail)
  exact U7 (k + 1) ((Jp (by repeat' (first|exact Qy|refine Qr rfl ?_)) (by repeat' (first|exact Qz|refine Qt (by first|rfl|exact congrArg (λ l=>some (Box.mk l _ _ _)) hset) ?_)) (Nat.le_refl _))).sub (by omega) (by omega)
 ·have hc:decide ((k:Int) < ((l.map blkA).length:Int)) = false:=by simp only [decide_eq_false_iff_not];omega
  repeat' (first|refine Qh ?_|refine Q9 ?_|refine Ua ?_|refine Jt ?_|refine Jo ?_|refine Q8 Qc ?_|refine Qi ?_|refine Qu ?_|refine Un ?_|(apply Jr;exact rfl;(· (repeat' (first|exact Qb _ _|exact Qj _|exact Qn _);done)))|(apply J9;exact rfl;(· (first|assumption|exact rfl)))|apply Qd|apply Q2|apply Jd|(apply Qp;exact rfl;exact Q0 rfl)|exact Q0 rfl|exact rfl|fail)
end Go.Proofs.YtaolmfgpebncjaaGreat
