/- Bytes compared; records read, by value. -/
import Derived.Test.YtaolmfgpebncjaaGreatRa
import Derived.Test.YtaolmfgpebncjaaGreatGi
import Derived.Test.YtaolmfgpebncjaaGreatWt
import Derived.Test.YtaolmfgpebncjaaGreatXg
set_option maxRecDepth 100000
set_option maxHeartbeats 3200000
set_option linter.unusedSimpArgs false
set_option linter.unusedVariables false
namespace Go.Proofs.YtaolmfgpebncjaaGreat
open Go.Av
attribute [local irreducible] T thenQ Uv Y0 Uz WX retV retR Gt Gts GtsP Qs CV CR Av.Pure
structure Prf where
 place:Int
 count:Int
 path:List (List UInt8)
 deriving DecidableEq
abbrev Prf0:Prf:=⟨0,0,[]⟩
abbrev prfA (x:Prf):AV:=.agg [.int .i64 x.place,.int .i64 x.count,Y2 x.path]
abbrev prfAC (x:Prf):List AV:=[.int .i64 x.place,.int .i64 x.count,Y2 x.path]
instance:ElemF prfA:=⟨λ a y hy=>by
 have h:=(inferInstance:CellsC (prfAC a)).out y hy
 exact h⟩
abbrev prfAS (l:List Prf):AV:=.ls 3 true false (l.map prfA)
def PrfW (x:Prf):Nat:=Y9 List.length x.path
def PrfR (x:Prf):Prop:=rowsR x.path
structure Sig where
 leaf:Int
 parts:List (List UInt8)
 prf:Prf
 deriving DecidableEq
abbrev Sig0:Sig:=⟨0,[],⟨0,0,[]⟩⟩
abbrev sigA (x:Sig):AV:=.agg [.int .i64 x.leaf,Y2 x.parts,.int .i64 x.prf.place,.int .i64 x.prf.count,Y2 x.prf.path]
abbrev sigAC (x:Sig):List AV:=[.int .i64 x.leaf,Y2 x.parts,.int .i64 x.prf.place,.int .i64 x.prf.count,Y2 x.prf.path]
instance:ElemF sigA:=⟨λ a y hy=>by
 have h:=(inferInstance:CellsC (sigAC a)).out y hy
 exact h⟩
abbrev sigAS (l:List Sig):AV:=.ls 5 true false (l.map sigA)
def SigW (x:Sig):Nat:=Y9 List.length x.parts + PrfW x.prf
def SigR (x:Sig):Prop:=rowsR x.parts/\PrfR x.prf
end Go.Proofs.YtaolmfgpebncjaaGreat
set_option maxRecDepth 100000
set_option maxHeartbeats 3200000
set_option linter.unusedSimpArgs false
set_option linter.unusedVariables false
namespace Go.Proofs.YtaolmfgpebncjaaGreat
open Go.Av
attribute [local irreducible] T thenQ Uv Y0 Uz WX retV retR Gt Gts GtsP Qs CV CR Av.Pure
theorem toByteS_cr0 (q:List UInt8) (h:q.length<=1048576):CR Tryz.prog 30 [sl1 (q.map u8A)] [] 0 (Is (.sl 0 0 q.length q.length) [(0,some ⟨q.map u8A,1,false,false⟩)] (0 + 1)):=by
 refine Us Qc Tryz.func30 (by kernel_rfl) rfl 22 rfl (by simp) [.tmp 2] rfl ?_
 intro w0 ok0 wr φ0
 have hl:(q.map u8A).length = q.length:=by simp
 repeat' (first|refine Qh ?_|refine Q9 ?_|refine Q8 Qc ?_|refine Qi ?_|refine Qo ?_|apply Qd|apply Q2|(apply Qp;exact rfl;exact Q0 rfl)|(apply S_make;exact rfl;exact rfl;exact Q0 rfl;exact Q0 rfl;exact rfl;(· (first|assumption|omega));(· (first|assumption|omega|(dsimp only;omega)|(simp;omega)));(· (first|assumption|omega|(dsimp only;omega)|(simp;omega)));(· (first|assumption|omega|(dsimp only;omega)|(simp;omega)));(· (first|exact Q5 rfl rfl|assumption));(· (first|exact Nat.le_of_ble_eq_true rfl|omega|decide)))|exact Q0 rfl|exact rfl|fail)
 refine Js (α:=Nat) (λ k=>⟨[(0,sl1 (q.map u8A)),(3,.sl 0 0 (q.map u8A).length (q.map u8A).length),(4,.int .i64 k)],[(0,some ⟨(q.map u8A).take k++List.replicate ((q.map u8A).length - k) (u8A 0),1,false,false⟩)],1⟩)
  (λ k=>(q.map u8A).length - k) (λ k=>k<=(q.map u8A).length) 0 ((Jp (by repeat' (first|exact Qy|refine Qr rfl ?_)) (by repeat' (first|exact Qz|refine Qt (by first|rfl|exact congrArg (λ l=>some (Box.mk l _ _ _)) hset) ?_)) (Nat.le_refl _))).sub (by omega) ?_
 intro k hk
 by_cases hkl:k < (q.map u8A).length
 ·have hc:decide ((k:Int) < ((q.map u8A).length:Int)) = true:=by simp only [decide_eq_true_eq];omega
  have hget:=Uy u8A q 0 (k:=k) (by omega)
  have hat:=map_at u8A q 0 (k:=k) (by omega)
  have hset:=copy_step (q.map u8A) (u8A 0) hkl hat
  have hin:0 + ((k:Int)).toNat < ((q.map u8A).take k++List.replicate ((q.map u8A).length - k) (u8A 0)).length:=by
   simp only [List.length_append,List.length_take,List.length_replicate];omega
  have okk:Qs 1 (u8A (q.getD k 0)):=Q5 rfl rfl
  repeat' (first|refine Qh ?_|refine Q9 ?_|refine U9 ?_|refine Q8 Qc ?_|refine Qi ?_|refine Qw ?_|refine Qo ?_|(apply Jf;exact rfl;(· (first|assumption|exact rfl)))|apply Qd|apply Q2|(apply Ue;exact rfl;exact Q0 rfl;exact rfl;(· (first|exact ⟨rfl,rfl⟩|exact ⟨rfl,trivial⟩|assumption)))|apply Jd|apply Y7|(apply Qp;exact rfl;exact Q0 rfl)|(apply Jk;exact rfl;exact rfl;exact Q0 rfl;exact Q0 rfl)|(apply S_idxSl;exact rfl;exact rfl;exact Q0 rfl;exact rfl;exact Q0 rfl)|(apply S_storeE;exact rfl;exact Q0 rfl;(iterate 3 exact rfl))|exact Q0 rfl|exact Q5 rfl rfl|assumption|(apply wrap_i64;omega;omega)|(refine ⟨?_,?_⟩<;>omega)|exact rfl|fail)
  exact U7 (k + 1) ((Jp (by repeat' (first|exact Qy|refine Qr rfl ?_)) (by repeat' (first|exact Qz|refine Qt (by first|rfl|exact congrArg (λ l=>some (Box.mk l _ _ _)) hset) ?_)) (Nat.le_refl _))).sub (by omega) (by omega)
 ·have hc:decide ((k:Int) < ((q.map u8A).length:Int)) = false:=by simp only [decide_eq_false_iff_not];omega
  obtain rfl:k = (q.map u8A).length:=by omega
  have he:(q.map u8A).take (q.map u8A).length++List.replicate ((q.map u8A).length - (q.map u8A).length) (u8A 0) = q.map u8A:=by
   rw [Nat.sub_self,List.replicate_zero,List.append_nil,List.take_length]
  repeat' (first|refine Qh ?_|refine Q9 ?_|refine Ua ?_|refine Jt ?_|refine Jo ?_|refine Q8 Qc ?_|refine Qi ?_|refine Qu ?_|refine Un ?_|(apply J9;exact rfl;(· (first|assumption|exact rfl)))|apply Qd|apply Q2|apply Jd|(apply Qp;exact rfl;exact Q0 rfl)|exact Q0 rfl|exact rfl|fail)
  rw [he]
  (apply E_U0 [(0,0)]<;>repeat' (first|exact J4|(apply J3;exact rfl)|(apply Qx;(iterate 6 exact rfl))|(apply J5;(iterate 4 exact rfl);(· (first|assumption|exact rfl)))|exact Ren.sl _ _ _ _|(apply Ub;(· first|exact rfl|omega);(· first|exact rfl|assumption|(simp [Q1];done)|(simp [Q1];omega));(· first|exact rfl|assumption|(simp [Q1];done)|(simp [Q1];omega)))|exact Ren.ptr _ _ _|exact Qf|apply Q7|(apply Ren.pure;exact Q4.out)|apply Qm|apply Qv|exact Low.sl _ _ _ _ (by decide)|exact Low.ptr _ _ _ (by decide)|exact J0|apply Qq|(apply Low.pure;exact Q4.out)|apply U3|apply U2|exact Ji|(apply Jx;exact rfl;(· first|exact rfl|assumption|(simp [bA];done));exact Q6.out)|(apply Jh;exact rfl)|exact Jc|apply J1|(apply Uf.low;exact Q6.out)|apply Ju|exact Jv|exact rfl))
theorem toByteS_cr (q:List UInt8) (h:q.length<=1048576) (N:Nat):CR Tryz.prog 30 [sl1 (q.map u8A)] [] N (Is (.sl N 0 q.length q.length) [(N,some ⟨q.map u8A,1,false,false⟩)] (N + 1)) :=
 CR.allN (toByteS_cr0 q h) N (by first|exact Q4.out|exact Qe.out|assumption) (by repeat' (first|exact Ren.sl _ _ _ _|exact Ren.ptr _ _ _|exact Qf|apply Q7|(apply Ren.pure;(first|exact Q4.out|exact Qe.out|assumption))|apply Qm|apply Qv)) (by repeat' (first|exact Jn|(apply Ja;exact rfl;(· (exact Q6.out)))|(apply Jm;exact rfl)|exact Qf|apply Q7|exact Ren.sl _ _ _ _|exact Ren.ptr _ _ _|(apply Ren.pure;(first|exact Q4.out|exact Qe.out|assumption))|apply Qm))
end Go.Proofs.YtaolmfgpebncjaaGreat
set_option maxRecDepth 100000
set_option maxHeartbeats 3200000
set_option linter.unusedSimpArgs false
set_option linter.unusedVariables false
namespace Go.Proofs.YtaolmfgpebncjaaGreat
open Go.Av
attribute [local irreducible] T thenQ Uv Y0 Uz WX retV retR Gt Gts GtsP Qs CV CR Av.Pure
attribute [local irreducible] sha
def frCode (p:List UInt8):Int:=if 60 < p.length then 2 else if p.length = 0 then 1 else 0
def frOut (p:List UInt8):List UInt8:=if frCode p = 0 then frameL p else []
end Go.Proofs.YtaolmfgpebncjaaGreat
set_option maxRecDepth 100000
set_option maxHeartbeats 3200000
set_option linter.unusedSimpArgs false
set_option linter.unusedVariables false
namespace Go.Proofs.YtaolmfgpebncjaaGreat
open Go.Av
attribute [local irreducible] T thenQ Uv Y0 Uz WX retV retR Gt Gts GtsP Qs CV CR Av.Pure
attribute [local irreducible] sha
def cmpL:List UInt8->List UInt8->Int
 | [],[]=>0
 | [],_::_=>-1
 | _::_,[]=>1
 | a::u,b::v=>if a.toNat < b.toNat then -1 else if b.toNat < a.toNat then 1 else cmpL u v
theorem cmpL_eq:∀ a b:List UInt8,cmpL a b = 0 ↔ a = b
 | [],[]=>by simp [cmpL]
 | [],_::_=>by simp [cmpL]
 | _::_,[]=>by simp [cmpL]
 | a::u,b::v=>by
   have ih:=cmpL_eq u v
   unfold cmpL
   by_cases h1:a.toNat < b.toNat
   ·rw [if_pos h1]
    have:a≠b:=by rintro rfl;omega
    simp [this]
   ·rw [if_neg h1]
    by_cases h2:b.toNat < a.toNat
    ·rw [if_pos h2]
     have:a≠b:=by rintro rfl;omega
     simp [this]
    ·rw [if_neg h2,ih]
     have:a = b:=UInt8.toNat.inj (by omega)
     simp [this]
theorem cmpL_step {a b:List UInt8} {k:Nat} (h:k < a.length) (h':k < b.length):cmpL (a.drop k) (b.drop k) = if (a.getD k 0).toNat < (b.getD k 0).toNat then -1 else if (b.getD k 0).toNat < (a.getD k 0).toNat then 1 else cmpL (a.drop (k + 1)) (b.drop (k + 1)):=by
 rw [List.drop_eq_getElem_cons h,List.drop_eq_getElem_cons h']
 simp only [cmpL,List.getD_eq_getElem?_getD,List.getElem?_eq_getElem h,List.getElem?_eq_getElem h',Option.getD_some]
theorem cmp_cv (a b:List UInt8) (ha:a.length<=4611686018427387904) (hb:b.length<=4611686018427387904):CV Tryz.prog 159 [sl1 (bA a),sl1 (bA b)] (· = .int .i64 (cmpL a b)):=by
 refine J7 Qc Tryz.func159 (by kernel_rfl) rfl 46 rfl (by simp) [.tmp 4] rfl ?_
 intro w0 ok0
 have hal:=Q1 a
 have hbl:=Q1 b
 repeat' (first|refine Qh ?_|refine Q9 ?_|refine Q8 Qc ?_|refine Qi ?_|refine Qo ?_|apply Q2|exact Q0 rfl|exact rfl|fail)
 refine Js (α:=Nat) (λ k=>⟨[(0,sl1 (bA a)),(1,sl1 (bA b)),(5,.int .i64 k)],[],0⟩)
  (λ k=>a.length - k) (λ k=>k<=a.length/\k<=b.length/\cmpL a b = cmpL (a.drop k) (b.drop k)) 0 ((Jp (by repeat' (first|exact Qy|refine Qr rfl ?_)) (by repeat' (first|exact Qz|refine Qt (by first|rfl|exact congrArg (λ l=>some (Box.mk l _ _ _)) hset) ?_)) (Nat.le_refl _))).sub ⟨by omega,by omega,rfl⟩ ?_
 rintro k ⟨hka,hkb,hI⟩
 by_cases h1:k < a.length
 ·have c1:decide ((k:Int) < ((bA a).length:Int)) = true:=by simp only [decide_eq_true_eq];omega
  by_cases h2:k < b.length
  ·have c2:decide ((k:Int) < ((bA b).length:Int)) = true:=by simp only [decide_eq_true_eq];omega
   have ga:=bA_getD a h1
   have gb:=bA_getD b h2
   rw [cmpL_step h1 h2] at hI
   generalize a.getD k 0 = x at *
   generalize b.getD k 0 = y at *
   have hw:IntKind.wrap .i64 ((k:Int) + 1) = ((k + 1:Nat):Int):=by rw [wrap_i64 (by omega) (by omega)];omega
   by_cases h3:x.toNat < y.toNat
   ·have c3:decide ((x.toNat:Int) < (y.toNat:Int)) = true:=by simp only [decide_eq_true_eq];omega
    rw [if_pos h3] at hI
    rw [hI]
    repeat' (first|refine Qh ?_|refine Q9 ?_|refine J8 ?_|refine Ui ?_|refine Ya ?_|refine Q8 Qc ?_|(apply Ur Qc Uw;(· kernel_rfl))|refine Qi ?_|refine Qw ?_|refine Qu ?_|refine Qo ?_|(apply Jr;exact rfl;(· (repeat' (first|exact Qb _ _|exact Qj _|exact Qn _);done)))|(apply Jf;exact rfl;(· (first|assumption|exact rfl)))|(apply S_gt;exact rfl;exact rfl;(· (first|assumption|exact rfl)))|apply Qd|apply Q2|(apply S_pickT;exact Q0 rfl;(· (first|assumption|exact rfl)))|(apply Ue;exact rfl;exact Q0 rfl;exact rfl;(· (first|exact ⟨rfl,rfl⟩|exact ⟨rfl,trivial⟩|assumption)))|apply Jd|(apply Qp;exact rfl;exact Q0 rfl)|(apply Jk;exact rfl;exact rfl;exact Q0 rfl;exact Q0 rfl)|exact Q0 rfl|assumption|(refine ⟨?_,?_⟩<;>omega)|exact rfl|fail)
   ·have c3:decide ((x.toNat:Int) < (y.toNat:Int)) = false:=by simp only [decide_eq_false_iff_not];omega
    rw [if_neg h3] at hI
    by_cases h4:y.toNat < x.toNat
    ·have c4:decide ((y.toNat:Int) < (x.toNat:Int)) = true:=by simp only [decide_eq_true_eq];omega
     rw [if_pos h4] at hI
     rw [hI]
     repeat' (first|refine Qh ?_|refine Q9 ?_|refine J8 ?_|refine Ui ?_|refine Ya ?_|refine Q8 Qc ?_|(apply Ur Qc Uw;(· kernel_rfl))|refine Qi ?_|refine Qw ?_|refine Qu ?_|refine Qo ?_|(apply Jr;exact rfl;(· (repeat' (first|exact Qb _ _|exact Qj _|exact Qn _);done)))|(apply Jf;exact rfl;(· (first|assumption|exact rfl)))|(apply J9;exact rfl;(· (first|assumption|exact rfl)))|(apply S_gt;exact rfl;exact rfl;(· (first|assumption|exact rfl)))|apply Qd|apply Q2|(apply S_pickT;exact Q0 rfl;(· (first|assumption|exact rfl)))|(apply Ue;exact rfl;exact Q0 rfl;exact rfl;(· (first|exact ⟨rfl,rfl⟩|exact ⟨rfl,trivial⟩|assumption)))|apply Jd|apply S_gtr|(apply Qp;exact rfl;exact Q0 rfl)|(apply Jk;exact rfl;exact rfl;exact Q0 rfl;exact Q0 rfl)|exact Q0 rfl|assumption|(refine ⟨?_,?_⟩<;>omega)|exact rfl|fail)
    ·have c4:decide ((y.toNat:Int) < (x.toNat:Int)) = false:=by simp only [decide_eq_false_iff_not];omega
     rw [if_neg h4] at hI
     repeat' (first|refine Qh ?_|refine Q9 ?_|refine U9 ?_|refine Q8 Qc ?_|(apply Ur Qc Uw;(· kernel_rfl))|refine Qi ?_|refine Qw ?_|refine Qo ?_|(apply Jf;exact rfl;(· (first|assumption|exact rfl)))|(apply J9;exact rfl;(· (first|assumption|exact rfl)))|(apply S_gt;exact rfl;exact rfl;(· (first|assumption|exact rfl)))|apply Qd|apply Q2|(apply S_pickT;exact Q0 rfl;(· (first|assumption|exact rfl)))|(apply Ue;exact rfl;exact Q0 rfl;exact rfl;(· (first|exact ⟨rfl,rfl⟩|exact ⟨rfl,trivial⟩|assumption)))|apply Jd|apply S_gtr|apply Y7|(apply Qp;exact rfl;exact Q0 rfl)|(apply Jk;exact rfl;exact rfl;exact Q0 rfl;exact Q0 rfl)|exact Q0 rfl|assumption|(refine ⟨?_,?_⟩<;>omega)|exact rfl|fail)
     exact U7 (k + 1) ((Jp (by repeat' (first|exact Qy|refine Qr rfl ?_)) (by repeat' (first|exact Qz|refine Qt (by first|rfl|exact congrArg (λ l=>some (Box.mk l _ _ _)) hset) ?_)) (Nat.le_refl _))).sub ⟨by omega,by omega,hI⟩ (by omega)
  ·have c2:decide ((k:Int) < ((bA b).length:Int)) = false:=by simp only [decide_eq_false_iff_not];omega
   have c3:decide (((bA a).length:Int) < ((bA b).length:Int)) = false:=by simp only [decide_eq_false_iff_not];omega
   have c4:decide (((bA b).length:Int) < ((bA a).length:Int)) = true:=by simp only [decide_eq_true_eq];omega
   have hv:cmpL a b = 1:=by rw [hI,List.drop_of_length_le (l:=b) (by omega),List.drop_eq_getElem_cons h1];rfl
   rw [hv]
   repeat' (first|refine Qh ?_|refine Q9 ?_|refine J8 ?_|refine Ua ?_|refine Jt ?_|refine Jo ?_|refine Q8 Qc ?_|refine Qi ?_|refine Qw ?_|refine Qu ?_|refine Un ?_|(apply Jr;exact rfl;(· (repeat' (first|exact Qb _ _|exact Qj _|exact Qn _);done)))|(apply Jf;exact rfl;(· (first|assumption|exact rfl)))|(apply J9;exact rfl;(· (first|assumption|exact rfl)))|(apply S_gt;exact rfl;exact rfl;(· (first|assumption|exact rfl)))|apply Qd|apply Q2|(apply S_pickT;exact Q0 rfl;(· (first|assumption|exact rfl)))|apply Jd|apply S_gtr|(apply Qp;exact rfl;exact Q0 rfl)|exact Q0 rfl|exact rfl|fail)
 ·have c1:decide ((k:Int) < ((bA a).length:Int)) = false:=by simp only [decide_eq_false_iff_not];omega
  have c4:decide (((bA b).length:Int) < ((bA a).length:Int)) = false:=by simp only [decide_eq_false_iff_not];omega
  by_cases h2:k < b.length
  ·have c3:decide (((bA a).length:Int) < ((bA b).length:Int)) = true:=by simp only [decide_eq_true_eq];omega
   have hv:cmpL a b = -1:=by rw [hI,List.drop_of_length_le (l:=a) (by omega),List.drop_eq_getElem_cons h2];rfl
   rw [hv]
   repeat' (first|refine Qh ?_|refine Q9 ?_|refine J8 ?_|refine Ua ?_|refine Jt ?_|refine Jo ?_|refine Q8 Qc ?_|refine Qi ?_|refine Qu ?_|refine Un ?_|(apply Jr;exact rfl;(· (repeat' (first|exact Qb _ _|exact Qj _|exact Qn _);done)))|(apply Jf;exact rfl;(· (first|assumption|exact rfl)))|(apply J9;exact rfl;(· (first|assumption|exact rfl)))|(apply S_gtF';(iterate 3 exact rfl);(· (first|assumption|exact rfl)))|apply Qd|apply Q2|(apply Uj;exact Q0 rfl;(· (first|assumption|exact rfl)))|apply Jd|(apply Qp;exact rfl;exact Q0 rfl)|exact Q0 rfl|exact rfl|fail)
  ·have c3:decide (((bA a).length:Int) < ((bA b).length:Int)) = false:=by simp only [decide_eq_false_iff_not];omega
   have hv:cmpL a b = 0:=by rw [hI,List.drop_of_length_le (l:=a) (by omega),List.drop_of_length_le (l:=b) (by omega)];rfl
   rw [hv]
   repeat' (first|refine Qh ?_|refine Q9 ?_|refine Ua ?_|refine Jt ?_|refine Jo ?_|refine Q8 Qc ?_|refine Qi ?_|refine Qw ?_|refine Qu ?_|refine Un ?_|(apply Jr;exact rfl;(· (repeat' (first|exact Qb _ _|exact Qj _|exact Qn _);done)))|(apply J9;exact rfl;(· (first|assumption|exact rfl)))|(apply S_gtF';(iterate 3 exact rfl);(· (first|assumption|exact rfl)))|apply Qd|apply Q2|(apply Uj;exact Q0 rfl;(· (first|assumption|exact rfl)))|apply Jd|apply S_gtr|(apply Qp;exact rfl;exact Q0 rfl)|exact Q0 rfl|exact rfl|fail)
theorem same_cv (a b:List UInt8) (ha:a.length<=4611686018427387904) (hb:b.length<=4611686018427387904):CV Tryz.prog 114 [sl1 (bA a),sl1 (bA b)] (· = .bool (decide (a = b))):=by
 refine J7 Qc Tryz.func114 (by kernel_rfl) rfl 9 rfl (by simp) [.tmp 4] rfl ?_
 intro w0 ok0
 have c0:=cmp_cv a b ha hb
 have e:decide (a = b) = decide (cmpL a b = 0):=by
  by_cases h:a = b
  ·rw [decide_eq_true h,decide_eq_true ((cmpL_eq a b).2 h)]
  ·rw [decide_eq_false h,decide_eq_false (λ k=>h ((cmpL_eq a b).1 k))]
 rw [e]
 repeat' (first|refine Qh ?_|refine Q9 ?_|refine Q8 Qc ?_|refine Qi ?_|refine Qu ?_|(apply Jr;exact rfl;(· (repeat' (first|exact Qb _ _|exact Qj _|exact Qn _);done)))|apply Qd|apply Q2|(apply S_eql;exact Q0 rfl;exact Q0 rfl)|apply Qk (f:=159)|apply c0|exact Qa|apply Q3|(apply View.pure;exact Q4.out)|exact Jq.out|exact Q0 rfl|exact Ql|(apply Qg;exact Q0 rfl)|exact rfl|fail)
theorem equal_cv (a b:List UInt8):CV Tryz.prog 91 [sl1 (bA a),sl1 (bA b)] (· = .bool (decide (a = b))):=by
 refine J7 Qc Tryz.func91 (by kernel_rfl) rfl 10 rfl (by simp) [.tmp 4] rfl ?_
 intro w0 ok0
 have e:=str_eq (bStr a) (bStr b)
 rw [strB_bStr,strB_bStr] at e
 rw [<-e]
 repeat' (first|refine Qh ?_|refine Q9 ?_|refine Q8 Qc ?_|refine Qi ?_|refine Qu ?_|(apply Jr;exact rfl;(· (repeat' (first|exact Qb _ _|exact Qj _|exact Qn _);done)))|apply Qd|apply Q2|(apply M_convBS;(iterate 3 exact rfl);exact Q0 rfl;exact rfl)|(apply S_strEq;exact Q0 rfl;exact Q0 rfl)|exact Q0 rfl|exact rfl|fail)
end Go.Proofs.YtaolmfgpebncjaaGreat
