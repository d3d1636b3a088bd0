/- The tree of leaves: its root, and the sides of a way. -/
import Derived.Test.YtaolmfgpebncjaaGreatXg
import Derived.Test.YtaolmfgpebncjaaGreatRa
set_option maxRecDepth 100000
set_option maxHeartbeats 3200000
set_option linter.unusedSimpArgs false
set_option linter.unusedVariables false
namespace Go.Proofs.YtaolmfgpebncjaaGreat
open Go.Av
attribute [local irreducible] T thenQ Uv Y0 Uz WX retV retR Gt Gts GtsP Qs CV CR Av.Pure
attribute [local irreducible] sha
theorem tagged_cv (s:ByteArray) (ws:List (List UInt8)) (hs:s.size<=255) (h:ws.flatten.length<=1000000000) (h2:ws.length<=1000000000):CV Tryz.prog 132 [.str s,sl1 (ws.map byA)] (· = sl1 (bA (sha (tagL s++ws.flatten)))) :=
 CR.byVal (tagged_cr s ws hs h h2 0) (by rw [Q1,sha_length]) (Yi _)
theorem specTagged_cv (s:ByteArray) (d:List UInt8) (hs:s.size<=255) (h:d.length<=1000000000):CV Tryz.prog 160 [.str s,sl1 (bA d)] (· = sl1 (bA (sha (tagL s++d)))) :=
 CR.byVal (specTagged_cr s d hs h 0) (by rw [Q1,sha_length]) (Yi _)
abbrev leafS:ByteArray:=ByteArray.mk #[108,101,97,102]
abbrev nodeS:ByteArray:=ByteArray.mk #[110,111,100,101]
abbrev noneS:ByteArray:=ByteArray.mk #[110,111,110,101]
def leafD (d:List UInt8):List UInt8:=sha (tagL leafS++d)
def nodeD (a b:List UInt8):List UInt8:=sha (tagL nodeS++(a++b))
def noneD:List UInt8:=sha (tagL noneS++[])
theorem leafD_length (d:List UInt8):(leafD d).length = 32:=sha_length _
theorem nodeD_length (a b:List UInt8):(nodeD a b).length = 32:=sha_length _
theorem noneD_length:noneD.length = 32:=sha_length _
theorem loose1 {x y:AV} (h:Loose x y):∀ (i:Nat) (a b:AV),[x][i]? = some a->[y][i]? = some b->Loose a b:=λ i a b ha hb=>by
 match i,ha,hb with
 | 0,ha,hb=>obtain rfl:=Option.some.inj ha;obtain rfl:=Option.some.inj hb;exact h
theorem loose2 {x y u v:AV} (h:Loose x y) (k:Loose u v):∀ (i:Nat) (a b:AV),[x,u][i]? = some a->[y,v][i]? = some b->Loose a b:=λ i a b ha hb=>by
 match i,ha,hb with
 | 0,ha,hb=>obtain rfl:=Option.some.inj ha;obtain rfl:=Option.some.inj hb;exact h
 | 1,ha,hb=>obtain rfl:=Option.some.inj ha;obtain rfl:=Option.some.inj hb;exact k
theorem leafDigest_cv (d:List UInt8) (h:d.length<=100000000):CV Tryz.prog 133 [sl1 (bA d)] (· = sl1 (bA (leafD d))):=by
 refine J7 Qc Tryz.func133 (by kernel_rfl) rfl 6 rfl (by simp) [.tmp 2] rfl ?_
 intro w0 ok0
 have e:[d].flatten = d:=by simp
 have c0:=tagged_cv leafS [d] (by decide) (by rw [e];omega) (by simp)
 rw [e] at c0
 have c1:CV Tryz.prog 132 [.str leafS,.ls 1 false true [byA d]] (· = sl1 (bA (leafD d))):=c0.args rfl (loose2 (Loose.refl _) (loose_ls _ _ _ _))
 repeat' (first|refine Qh ?_|refine Q9 ?_|refine Q8 Qc ?_|refine Qi ?_|refine Qu ?_|(apply E_X<;>repeat' (first|exact J4|(apply J3;exact rfl)|(apply Qx;(iterate 6 exact rfl))|(apply J5;(iterate 4 exact rfl);(· (first|assumption|exact rfl)))|exact Qa|apply Q3|apply Jb|(apply Uu;exact rfl;(· first|exact rfl|assumption|(simp [Q1];done)|(simp [Q1];omega)|omega);exact Q6.out)|(apply U8;exact Q6.out)|apply Uh|apply Ul|(apply View.ofEq;exact Q4.out)|exact rfl))|apply Qd|apply Q2|(apply S_buildV Qc;exact rfl;exact rfl)|apply Jl (f:=132)|apply c1|exact Qe.out|exact U4|(apply Ug;exact Q0 rfl)|exact Uc|apply Uq|(intro hu;cases hu;done)|exact Q0 rfl|exact Ql|(apply Qg;exact Q0 rfl)|exact Q5 rfl rfl|exact Nat.le_of_ble_eq_true rfl|exact rfl|fail)
theorem nodeDigest_cv (a b:List UInt8) (ha:a.length<=1000000) (hb:b.length<=1000000):CV Tryz.prog 135 [sl1 (bA a),sl1 (bA b)] (· = sl1 (bA (nodeD a b))):=by
 refine J7 Qc Tryz.func135 (by kernel_rfl) rfl 9 rfl (by simp) [.tmp 4] rfl ?_
 intro w0 ok0
 have e:[a,b].flatten = a++b:=by simp
 have c0:=tagged_cv nodeS [a,b] (by decide) (by rw [e,List.length_append];omega) (by simp)
 rw [e] at c0
 have c1:CV Tryz.prog 132 [.str nodeS,.ls 1 false true [byA a,byA b]] (· = sl1 (bA (nodeD a b))):=c0.args rfl (loose2 (Loose.refl _) (loose_ls _ _ _ _))
 repeat' (first|refine Qh ?_|refine Q9 ?_|refine Q8 Qc ?_|refine Qi ?_|refine Qu ?_|(apply E_X<;>repeat' (first|exact J4|(apply J3;exact rfl)|(apply Qx;(iterate 6 exact rfl))|(apply J5;(iterate 4 exact rfl);(· (first|assumption|exact rfl)))|exact Qa|apply Q3|apply Jb|(apply Uu;exact rfl;(· first|exact rfl|assumption|(simp [Q1];done)|(simp [Q1];omega)|omega);exact Q6.out)|(apply U8;exact Q6.out)|apply Uh|apply Ul|(apply View.ofEq;exact Q4.out)|exact rfl))|apply Qd|apply Q2|(apply S_buildV Qc;exact rfl;exact rfl)|apply Jl (f:=132)|apply c1|exact Qe.out|exact U4|(apply Ug;exact Q0 rfl)|exact Uc|apply Uq|(intro hu;cases hu;done)|exact Q0 rfl|exact Ql|(apply Qg;exact Q0 rfl)|exact Q5 rfl rfl|exact Nat.le_of_ble_eq_true rfl|exact rfl|fail)
theorem specLeaf_cv (d:List UInt8) (h:d.length<=100000000):CV Tryz.prog 161 [sl1 (bA d)] (· = sl1 (bA (leafD d))):=by
 refine J7 Qc Tryz.func161 (by kernel_rfl) rfl 5 rfl (by simp) [.tmp 2] rfl ?_
 intro w0 ok0
 have c0:=specTagged_cv leafS d (by decide) (by omega)
 repeat' (first|refine Qh ?_|refine Q9 ?_|refine Q8 Qc ?_|refine Qi ?_|refine Qu ?_|(apply E_X<;>repeat' (first|exact J4|(apply J3;exact rfl)|(apply Qx;(iterate 6 exact rfl))|(apply J5;(iterate 4 exact rfl);(· (first|assumption|exact rfl)))|exact Qa|apply Q3|apply Jb|(apply Uu;exact rfl;(· first|exact rfl|assumption|(simp [Q1];done)|(simp [Q1];omega)|omega);exact Q6.out)|(apply U8;exact Q6.out)|apply Uh|apply Ul|(apply View.ofEq;exact Q4.out)|exact rfl))|apply Qd|apply Q2|apply Jl (f:=160)|apply c0|exact Qe.out|exact Q0 rfl|exact Ql|(apply Qg;exact Q0 rfl)|exact rfl|fail)
theorem specNode_cv (a b:List UInt8) (ha:a.length<=1000000) (hb:b.length<=1000000):CV Tryz.prog 163 [sl1 (bA a),sl1 (bA b)] (· = sl1 (bA (nodeD a b))):=by
 refine J7 Qc Tryz.func163 (by kernel_rfl) rfl 11 rfl (by simp) [.tmp 4] rfl ?_
 intro w0 ok0
 have la:=Q1 a
 have lb:=Q1 b
 have c0:=specTagged_cv nodeS (a++b) (by decide) (by rw [List.length_append];omega)
 have hv:[]++bA a++bA b = bA (a++b):=by rw [List.nil_append,bA_app]
 rw [<-hv] at c0
 repeat' (first|refine Qh ?_|refine Q9 ?_|refine Q8 Qc ?_|refine Qi ?_|refine Qu ?_|(apply E_X<;>repeat' (first|exact J4|(apply J3;exact rfl)|(apply Qx;(iterate 6 exact rfl))|(apply J5;(iterate 4 exact rfl);(· (first|assumption|exact rfl)))|exact Qa|apply Q3|apply Jb|(apply Uu;exact rfl;(· first|exact rfl|assumption|(simp [Q1];done)|(simp [Q1];omega)|omega);exact Q6.out)|(apply U8;exact Q6.out)|apply Uh|apply Ul|(apply View.ofEq;exact Q4.out)|exact rfl))|apply Qd|apply Q2|(apply M_appB;exact rfl;exact rfl;exact Q0 rfl)|(apply S_buildL Qc;(iterate 3 exact rfl))|apply S_callW (f:=160)|apply c0|exact Qa|apply Q3|(apply View.pure;exact Q4.out)|(apply view_slM;exact rfl;(· (apply mlen;first|exact rfl|assumption|exact Nat.le_of_ble_eq_true rfl|omega|(simp [Q1];done)|(simp [Q1];omega)));exact Q6.out)|(apply mlen;first|exact rfl|assumption|exact Nat.le_of_ble_eq_true rfl|omega|(simp [Q1];done)|(simp [Q1];omega))|(apply msz;first|assumption|exact Nat.le_of_ble_eq_true rfl|(dsimp only;simp only [List.length_append,List.length_map,List.length_cons,List.length_nil,Q1,List.length_take,List.length_drop,List.length_replicate] at *;omega)|(dsimp only;omega))|(apply mnorm;first|with_reducible exact app_nil0 _|exact app_norm _ _|exact rfl)|exact Src.ls rfl rfl|(dsimp only;omega)|exact U4|exact Uc|exact Q0 rfl|exact Ql|(apply Qg;exact Q0 rfl)|omega|exact rfl|fail)
def splitGo:Nat->Nat->Nat->Nat
 | 0,m,_=>m
 | f + 1,m,n=>if 2 * m < n then splitGo f (2 * m) n else m
def Yk (n:Nat):Nat:=splitGo n 1 n
theorem splitGo_lt:∀ (f m n:Nat),0 < m->m < n->0 < splitGo f m n/\splitGo f m n < n
 | 0,m,n,h,k=>⟨h,k⟩
 | f + 1,m,n,h,k=>by
   rw [splitGo]
   split
   ·exact splitGo_lt f (2 * m) n (by omega) (by assumption)
   ·exact ⟨h,k⟩
theorem splitN_lt {n:Nat} (h:2<=n):0 < Yk n/\Yk n < n:=splitGo_lt n 1 n (by omega) (by omega)
theorem splitGo_stop {f m n:Nat} (h:¬ 2 * m < n):splitGo f m n = m:=by
 cases f with
 | zero=>rfl
 | succ f=>rw [splitGo,if_neg h]
structure SplitSt (n:Nat) (m:Nat):Prop where
 pos:0 < m
 le:m<=n + 1
 eq:∃ f,Yk n = splitGo f m n/\n<=f + m
theorem split_start (n:Nat):SplitSt n 1:=⟨by omega,by omega,n,rfl,by omega⟩
theorem split_next {n m:Nat} (h:SplitSt n m) (k:2 * m < n):SplitSt n (2 * m):=by
 obtain ⟨h1,h2,f,h3,h4⟩:=h
 refine ⟨by omega,by omega,f - 1,?_,by omega⟩
 rw [h3,show f = (f - 1) + 1 by omega,splitGo,if_pos k]
 rfl
theorem split_end {n m:Nat} (h:SplitSt n m) (k:¬ 2 * m < n):Yk n = m:=by
 obtain ⟨_,_,f,h3,_⟩:=h
 rw [h3,splitGo_stop k]
theorem splitAt_cv (n:Nat) (h:n<=1000000):CV Tryz.prog 134 [.int .i64 (n:Int)] (· = .int .i64 (Yk n:Int)):=by
 refine J7 Qc Tryz.func134 (by kernel_rfl) rfl 11 rfl (by simp) [.tmp 2] rfl ?_
 intro w0 ok0
 repeat' (first|refine Qh ?_|refine Q9 ?_|refine Q8 Qc ?_|refine Qi ?_|refine Qo ?_|apply Q2|exact Q0 rfl|exact rfl|fail)
 refine Js (α:=Nat) (λ m=>⟨[(0,.int .i64 (n:Int)),(3,.int .i64 (m:Int))],[],0⟩)
  (λ m=>n - m) (SplitSt n) 1 ((Jp (by repeat' (first|exact Qy|refine Qr rfl ?_)) (by repeat' (first|exact Qz|refine Qt (by first|rfl|exact congrArg (λ l=>some (Box.mk l _ _ _)) hset) ?_)) (Nat.le_refl _))).sub (split_start n) ?_
 intro m hI
 have h2:=hI.le
 have h1:=hI.pos
 have w1:IntKind.wrap .i64 (2 * (m:Int)) = ((2 * m:Nat):Int):=by rw [wrap_i64 (by omega) (by omega)];omega
 have w2:IntKind.wrap .i64 ((m:Int) * 2) = ((2 * m:Nat):Int):=by rw [wrap_i64 (by omega) (by omega)];omega
 by_cases h3:2 * m < n
 ·have d:decide (((2 * m:Nat):Int) < (n:Int)) = true:=decide_eq_true (by omega)
  repeat' (first|refine Qh ?_|refine Q9 ?_|refine U9 ?_|refine Q8 Qc ?_|refine Qi ?_|refine Qw ?_|refine Qo ?_|(apply Jf;exact rfl;(· (first|assumption|exact rfl)))|apply Qd|apply Q2|apply Jd|apply S_mul|exact Q0 rfl|assumption|exact rfl|fail)
  exact U7 (2 * m) ((Jp (by repeat' (first|exact Qy|refine Qr rfl ?_)) (by repeat' (first|exact Qz|refine Qt (by first|rfl|exact congrArg (λ l=>some (Box.mk l _ _ _)) hset) ?_)) (Nat.le_refl _))).sub (split_next hI h3) (by omega)
 ·have d:decide (((2 * m:Nat):Int) < (n:Int)) = false:=decide_eq_false (by omega)
  rw [split_end hI h3]
  repeat' (first|refine Qh ?_|refine Q9 ?_|refine Ua ?_|refine Jt ?_|refine Jo ?_|refine Q8 Qc ?_|refine Qi ?_|refine Qu ?_|refine Un ?_|(apply Jr;exact rfl;(· (repeat' (first|exact Qb _ _|exact Qj _|exact Qn _);done)))|(apply J9;exact rfl;(· (first|assumption|exact rfl)))|apply Qd|apply Q2|apply Jd|apply S_mul|exact Q0 rfl|assumption|exact rfl|fail)
theorem l3Split_cv (n:Nat) (h:n<=1000000):CV Tryz.prog 162 [.int .i64 (n:Int)] (· = .int .i64 (Yk n:Int)):=by
 refine J7 Qc Tryz.func162 (by kernel_rfl) rfl 11 rfl (by simp) [.tmp 2] rfl ?_
 intro w0 ok0
 repeat' (first|refine Qh ?_|refine Q9 ?_|refine Q8 Qc ?_|refine Qi ?_|refine Qo ?_|apply Q2|exact Q0 rfl|exact rfl|fail)
 refine Js (α:=Nat) (λ m=>⟨[(0,.int .i64 (n:Int)),(3,.int .i64 (m:Int))],[],0⟩)
  (λ m=>n - m) (SplitSt n) 1 ((Jp (by repeat' (first|exact Qy|refine Qr rfl ?_)) (by repeat' (first|exact Qz|refine Qt (by first|rfl|exact congrArg (λ l=>some (Box.mk l _ _ _)) hset) ?_)) (Nat.le_refl _))).sub (split_start n) ?_
 intro m hI
 have h2:=hI.le
 have h1:=hI.pos
 have w1:IntKind.wrap .i64 (2 * (m:Int)) = ((2 * m:Nat):Int):=by rw [wrap_i64 (by omega) (by omega)];omega
 by_cases h3:2 * m < n
 ·have d:decide (((2 * m:Nat):Int) < (n:Int)) = true:=decide_eq_true (by omega)
  repeat' (first|refine Qh ?_|refine Q9 ?_|refine U9 ?_|refine Q8 Qc ?_|refine Qi ?_|refine Qw ?_|refine Qo ?_|(apply Jf;exact rfl;(· (first|assumption|exact rfl)))|apply Qd|apply Q2|apply Jd|apply S_mul|exact Q0 rfl|assumption|exact rfl|fail)
  exact U7 (2 * m) ((Jp (by repeat' (first|exact Qy|refine Qr rfl ?_)) (by repeat' (first|exact Qz|refine Qt (by first|rfl|exact congrArg (λ l=>some (Box.mk l _ _ _)) hset) ?_)) (Nat.le_refl _))).sub (split_next hI h3) (by omega)
 ·have d:decide (((2 * m:Nat):Int) < (n:Int)) = false:=decide_eq_false (by omega)
  rw [split_end hI h3]
  repeat' (first|refine Qh ?_|refine Q9 ?_|refine Ua ?_|refine Jt ?_|refine Jo ?_|refine Q8 Qc ?_|refine Qi ?_|refine Qu ?_|refine Un ?_|(apply Jr;exact rfl;(· (repeat' (first|exact Qb _ _|exact Qj _|exact Qn _);done)))|(apply J9;exact rfl;(· (first|assumption|exact rfl)))|apply Qd|apply Q2|apply Jd|apply S_mul|exact Q0 rfl|assumption|exact rfl|fail)
def rootGo:Nat->List (List UInt8)->List UInt8
 | 0,_=>noneD
 | f + 1,ws=>if ws.length = 0 then noneD else if ws.length = 1 then leafD (ws.getD 0 []) else nodeD (rootGo f (ws.take (Yk ws.length))) (rootGo f (ws.drop (Yk ws.length)))
def rootL (ws:List (List UInt8)):List UInt8:=rootGo ws.length ws
theorem rootGo_eq:∀ (f g:Nat) (ws:List (List UInt8)),ws.length<=f->ws.length<=g->rootGo f ws = rootGo g ws
 | 0,0,ws,_,_=>rfl
 | 0,g + 1,ws,h,_=>by rw [rootGo,rootGo,if_pos (by omega)]
 | f + 1,0,ws,_,h=>by rw [rootGo,rootGo,if_pos (by omega)]
 | f + 1,g + 1,ws,h,k=>by
   rw [rootGo,rootGo]
   split
   ·rfl
   ·split
    ·rfl
    ·have hs:=splitN_lt (n:=ws.length) (by omega)
     rw [rootGo_eq f g (ws.take _) (by rw [List.length_take];omega) (by rw [List.length_take];omega),rootGo_eq f g (ws.drop _) (by rw [List.length_drop];omega) (by rw [List.length_drop];omega)]
theorem rootL_none {ws:List (List UInt8)} (h:ws.length = 0):rootL ws = noneD:=by unfold rootL;rw [h,rootGo]
theorem rootL_one {ws:List (List UInt8)} (h:ws.length = 1):rootL ws = leafD (ws.getD 0 []):=by unfold rootL;rw [h,rootGo,if_neg (by omega),if_pos h]
theorem rootL_two {ws:List (List UInt8)} (h:2<=ws.length):rootL ws = nodeD (rootL (ws.take (Yk ws.length))) (rootL (ws.drop (Yk ws.length))):=by
 have hs:=splitN_lt h
 unfold rootL
 rw [show ws.length = (ws.length - 1) + 1 by omega,rootGo,if_neg (by omega),if_neg (by omega)]
 rw [show ws.length - 1 + 1 = ws.length by omega]
 rw [rootGo_eq (ws.length - 1) (ws.take (Yk ws.length)).length _ (by rw [List.length_take];omega) (Nat.le_refl _),rootGo_eq (ws.length - 1) (ws.drop (Yk ws.length)).length _ (by rw [List.length_drop];omega) (Nat.le_refl _)]
theorem rootGo_length:∀ (f:Nat) (ws:List (List UInt8)),(rootGo f ws).length = 32
 | 0,ws=>noneD_length
 | f + 1,ws=>by
   rw [rootGo]
   split
   ·exact noneD_length
   ·split
    ·exact leafD_length _
    ·exact nodeD_length _ _
theorem rootL_length (ws:List (List UInt8)):(rootL ws).length = 32:=rootGo_length _ _
theorem map_take' (ws:List (List UInt8)) (m:Nat):List.take (m - 0) (List.drop 0 (ws.map byA)) = (ws.take m).map byA:=by simp
theorem map_drop' (ws:List (List UInt8)) (m:Nat):List.take ((ws.map byA).length - m) (List.drop m (ws.map byA)) = (ws.drop m).map byA:=by
 rw [<-List.map_drop,<-List.map_take]
 congr 1
 rw [List.take_of_length_le (by simp)]
theorem rootOf_cv (n:Nat):∀ (ws:List (List UInt8)),ws.length = n->ws.length<=1000000->(∀ w∈ws,w.length<=100000000)->CV Tryz.prog 72 [Y2 ws] (· = sl1 (bA (rootL ws))):=by
 induction n using Nat.strongRecOn with
 | _ n ih =>
   intro ws hn hl hw
   refine J7 Qc Tryz.func72 (by kernel_rfl) rfl 27 rfl (by simp) [.tmp 2] rfl ?_
   intro w0 ok0
   have hml:(ws.map byA).length = ws.length:=by simp
   by_cases h0:ws.length = 0
   ·have d0:decide (((ws.map byA).length:Int) = 0) = true:=decide_eq_true (by omega)
    rw [rootL_none h0]
    have b0:=tagged_cv noneS [] (by decide) (by simp) (by simp)
    have b1:(CV Tryz.prog 132 [.str noneS,.ls 0 true true []] (· = sl1 (bA noneD))):=b0.args rfl (loose2 (Loose.refl _) (loose_nil _ _ _ _))
    repeat' (first|refine Qh ?_|refine Q9 ?_|refine J8 ?_|refine Ui ?_|refine Q8 Qc ?_|refine Qi ?_|refine Qu ?_|refine Qo ?_|(apply E_X<;>repeat' (first|exact J4|(apply J3;exact rfl)|(apply Qx;(iterate 6 exact rfl))|(apply J5;(iterate 4 exact rfl);(· (first|assumption|exact rfl)))|exact Qa|apply Q3|apply Jb|(apply Uu;exact rfl;(· first|exact rfl|assumption|(simp [Q1];done)|(simp [Q1];omega)|omega);exact Q6.out)|(apply U8;exact Q6.out)|apply Uh|apply Ul|(apply View.ofEq;exact Q4.out)|exact rfl))|(apply Jf;exact rfl;(· (first|assumption|exact rfl)))|apply Qd|apply Q2|(apply S_eql;exact Q0 rfl;exact Q0 rfl)|(apply Qp;exact rfl;exact Q0 rfl)|apply Jl (f:=132)|apply b1|exact Qe.out|exact Q0 rfl|exact Ql|(apply Qg;exact Q0 rfl)|exact rfl|fail)
   have d0:decide (((ws.map byA).length:Int) = 0) = false:=decide_eq_false (by omega)
   by_cases h1:ws.length = 1
   ·have d1:decide (((ws.map byA).length:Int) = 1) = true:=decide_eq_true (by omega)
    rw [rootL_one h1]
    have hget:=Uy byA ws [] (k:=0) (by omega)
    have a0:=leafDigest_cv (ws.getD 0 []) (hw _ (getD_mem ws [] (by omega)))
    repeat' (first|refine Qh ?_|refine Q9 ?_|refine J8 ?_|refine Ui ?_|refine Q8 Qc ?_|refine Qi ?_|refine Qu ?_|refine Qo ?_|(apply E_X<;>repeat' (first|exact J4|(apply J3;exact rfl)|(apply Qx;(iterate 6 exact rfl))|(apply J5;(iterate 4 exact rfl);(· (first|assumption|exact rfl)))|exact Qa|apply Q3|apply Jb|(apply Uu;exact rfl;(· first|exact rfl|assumption|(simp [Q1];done)|(simp [Q1];omega)|omega);exact Q6.out)|(apply U8;exact Q6.out)|apply Uh|apply Ul|(apply View.ofEq;exact Q4.out)|exact rfl))|(apply Jf;exact rfl;(· (first|assumption|exact rfl)))|(apply J9;exact rfl;(· (first|assumption|exact rfl)))|apply Qd|apply Q2|(apply Ue;exact rfl;exact Q0 rfl;exact rfl;(· (first|exact ⟨rfl,rfl⟩|exact ⟨rfl,trivial⟩|assumption)))|(apply S_eql;exact Q0 rfl;exact Q0 rfl)|(apply Qp;exact rfl;exact Q0 rfl)|(apply Jk;exact rfl;exact rfl;exact Q0 rfl;exact Q0 rfl)|apply Jl (f:=133)|apply a0|exact Qe.out|exact Q0 rfl|exact Ql|(apply Qg;exact Q0 rfl)|assumption|(refine ⟨?_,?_⟩<;>omega)|exact rfl|fail)
   have d1:decide (((ws.map byA).length:Int) = 1) = false:=decide_eq_false (by omega)
   have hs:=splitN_lt (n:=ws.length) (by omega)
   have c0:(CV Tryz.prog 134 [.int .i64 ((ws.map byA).length:Int)] (· = .int .i64 (Yk ws.length:Int))):=by rw [hml];exact splitAt_cv ws.length (by omega)
   have t1:=map_take' ws (Yk ws.length)
   have t2:=map_drop' ws (Yk ws.length)
   have c1:=ih _ (by rw [List.length_take];omega) (ws.take (Yk ws.length)) rfl (by rw [List.length_take];omega) (λ w hm=>hw w (List.mem_of_mem_take hm))
   have c2:=ih _ (by rw [List.length_drop];omega) (ws.drop (Yk ws.length)) rfl (by rw [List.length_drop];omega) (λ w hm=>hw w (List.mem_of_mem_drop hm))
   rw [rootL_two (by omega)]
   have l1:=rootL_length (ws.take (Yk ws.length))
   have l2:=rootL_length (ws.drop (Yk ws.length))
   have c3:=nodeDigest_cv (rootL (ws.take (Yk ws.length))) (rootL (ws.drop (Yk ws.length))) (by omega) (by omega)
   repeat' (first|refine Qh ?_|refine Q9 ?_|refine U9 ?_|refine Q8 Qc ?_|(apply T_drawM (id:=7) 7 Qc Uw;exact rfl;exact rfl;(· kernel_rfl);exact Nat.le_of_ble_eq_true rfl)|refine Qi ?_|refine Qw ?_|refine Qu ?_|refine Qo ?_|(apply E_X<;>repeat' (first|exact J4|(apply J3;exact rfl)|(apply Qx;(iterate 6 exact rfl))|(apply J5;(iterate 4 exact rfl);(· (first|assumption|exact rfl)))|exact Qa|apply Q3|apply Jb|(apply Uu;exact rfl;(· first|exact rfl|assumption|(simp [Q1];done)|(simp [Q1];omega)|omega);exact Q6.out)|(apply U8;exact Q6.out)|apply Uh|apply Ul|(apply View.ofEq;exact Q4.out)|exact rfl))|(apply J9;exact rfl;(· (first|assumption|exact rfl)))|apply Qd|apply Q2|(apply S_eql;exact Q0 rfl;exact Q0 rfl)|(apply Qp;exact rfl;exact Q0 rfl)|(apply M_slLs;exact rfl;exact rfl;exact Q0 rfl;exact rfl)|apply Qk (f:=134)|apply c0|apply Jl|apply c1|apply c2|apply c3|exact Qa|apply Q3|(apply View.pure;exact Q4.out)|(apply mtake;first|assumption|exact Ux (by first|rfl|(simp;done))|exact rfl)|exact Jq.out|exact Qe.out|(apply mlen;first|exact rfl|assumption|exact Nat.le_of_ble_eq_true rfl|omega|(simp [Q1];done)|(simp [Q1];omega))|(apply mtake;first|assumption|exact Ux (by first|rfl|(simp;done))|exact rfl)|(apply mnat;first|exact Int.toNat_natCast _|exact rfl)|exact Bd.no _|(apply bd_at;exact Q0 rfl)|exact Q0 rfl|exact Ql|(apply Qg;exact Q0 rfl)|omega|exact rfl|fail)
theorem l3Root_cv (n:Nat):∀ (ws:List (List UInt8)),ws.length = n->ws.length<=1000000->(∀ w∈ws,w.length<=100000000)->CV Tryz.prog 115 [Y2 ws] (· = sl1 (bA (rootL ws))):=by
 induction n using Nat.strongRecOn with
 | _ n ih =>
   intro ws hn hl hw
   refine J7 Qc Tryz.func115 (by kernel_rfl) rfl 27 rfl (by simp) [.tmp 2] rfl ?_
   intro w0 ok0
   have hml:(ws.map byA).length = ws.length:=by simp
   by_cases h0:ws.length = 0
   ·have d0:decide (((ws.map byA).length:Int) = 0) = true:=decide_eq_true (by omega)
    rw [rootL_none h0]
    have b0:=specTagged_cv noneS [] (by decide) (by simp)
    have b1:(CV Tryz.prog 160 [.str noneS,.ls 0 true true []] (· = sl1 (bA noneD))):=b0.args rfl (loose2 (Loose.refl _) (loose_nil _ _ _ _))
    repeat' (first|refine Qh ?_|refine Q9 ?_|refine J8 ?_|refine Q8 Qc ?_|refine Qi ?_|refine Qu ?_|(apply E_X<;>repeat' (first|exact J4|(apply J3;exact rfl)|(apply Qx;(iterate 6 exact rfl))|(apply J5;(iterate 4 exact rfl);(· (first|assumption|exact rfl)))|exact Qa|apply Q3|apply Jb|(apply Uu;exact rfl;(· first|exact rfl|assumption|(simp [Q1];done)|(simp [Q1];omega)|omega);exact Q6.out)|(apply U8;exact Q6.out)|apply Uh|apply Ul|(apply View.ofEq;exact Q4.out)|exact rfl))|(apply Jf;exact rfl;(· (first|assumption|exact rfl)))|apply Qd|apply Q2|(apply S_eql;exact Q0 rfl;exact Q0 rfl)|(apply Qp;exact rfl;exact Q0 rfl)|apply Jl (f:=160)|apply b1|exact Qe.out|exact Q0 rfl|exact Ql|(apply Qg;exact Q0 rfl)|exact rfl|fail)
   have d0:decide (((ws.map byA).length:Int) = 0) = false:=decide_eq_false (by omega)
   by_cases h1:ws.length = 1
   ·have d1:decide (((ws.map byA).length:Int) = 1) = true:=decide_eq_true (by omega)
    rw [rootL_one h1]
    have hget:=Uy byA ws [] (k:=0) (by omega)
    have a0:=specLeaf_cv (ws.getD 0 []) (hw _ (getD_mem ws [] (by omega)))
    repeat' (first|refine Qh ?_|refine Q9 ?_|refine J8 ?_|refine Q8 Qc ?_|refine Qi ?_|refine Qw ?_|refine Qu ?_|(apply E_X<;>repeat' (first|exact J4|(apply J3;exact rfl)|(apply Qx;(iterate 6 exact rfl))|(apply J5;(iterate 4 exact rfl);(· (first|assumption|exact rfl)))|exact Qa|apply Q3|apply Jb|(apply Uu;exact rfl;(· first|exact rfl|assumption|(simp [Q1];done)|(simp [Q1];omega)|omega);exact Q6.out)|(apply U8;exact Q6.out)|apply Uh|apply Ul|(apply View.ofEq;exact Q4.out)|exact rfl))|(apply Jf;exact rfl;(· (first|assumption|exact rfl)))|(apply J9;exact rfl;(· (first|assumption|exact rfl)))|apply Qd|apply Q2|(apply Ue;exact rfl;exact Q0 rfl;exact rfl;(· (first|exact ⟨rfl,rfl⟩|exact ⟨rfl,trivial⟩|assumption)))|(apply S_eql;exact Q0 rfl;exact Q0 rfl)|(apply Qp;exact rfl;exact Q0 rfl)|(apply Jk;exact rfl;exact rfl;exact Q0 rfl;exact Q0 rfl)|apply Jl (f:=161)|apply a0|exact Qe.out|exact Q0 rfl|exact Ql|(apply Qg;exact Q0 rfl)|assumption|(refine ⟨?_,?_⟩<;>omega)|exact rfl|fail)
   have d1:decide (((ws.map byA).length:Int) = 1) = false:=decide_eq_false (by omega)
   have hs:=splitN_lt (n:=ws.length) (by omega)
   have c0:(CV Tryz.prog 162 [.int .i64 ((ws.map byA).length:Int)] (· = .int .i64 (Yk ws.length:Int))):=by rw [hml];exact l3Split_cv ws.length (by omega)
   have t1:=map_take' ws (Yk ws.length)
   have t2:=map_drop' ws (Yk ws.length)
   have c1:=ih _ (by rw [List.length_take];omega) (ws.take (Yk ws.length)) rfl (by rw [List.length_take];omega) (λ w hm=>hw w (List.mem_of_mem_take hm))
   have c2:=ih _ (by rw [List.length_drop];omega) (ws.drop (Yk ws.length)) rfl (by rw [List.length_drop];omega) (λ w hm=>hw w (List.mem_of_mem_drop hm))
   rw [rootL_two (by omega)]
   have l1:=rootL_length (ws.take (Yk ws.length))
   have l2:=rootL_length (ws.drop (Yk ws.length))
   have c3:=specNode_cv (rootL (ws.take (Yk ws.length))) (rootL (ws.drop (Yk ws.length))) (by omega) (by omega)
   repeat' (first|refine Qh ?_|refine Q9 ?_|refine Q8 Qc ?_|(apply T_drawM (id:=7) 7 Qc Uw;exact rfl;exact rfl;(· kernel_rfl);exact Nat.le_of_ble_eq_true rfl)|refine Qi ?_|refine Qw ?_|refine Qu ?_|(apply E_X<;>repeat' (first|exact J4|(apply J3;exact rfl)|(apply Qx;(iterate 6 exact rfl))|(apply J5;(iterate 4 exact rfl);(· (first|assumption|exact rfl)))|exact Qa|apply Q3|apply Jb|(apply Uu;exact rfl;(· first|exact rfl|assumption|(simp [Q1];done)|(simp [Q1];omega)|omega);exact Q6.out)|(apply U8;exact Q6.out)|apply Uh|apply Ul|(apply View.ofEq;exact Q4.out)|exact rfl))|(apply J9;exact rfl;(· (first|assumption|exact rfl)))|apply Qd|apply Q2|(apply S_eql;exact Q0 rfl;exact Q0 rfl)|(apply Qp;exact rfl;exact Q0 rfl)|(apply M_slLs;exact rfl;exact rfl;exact Q0 rfl;exact rfl)|apply Qk (f:=162)|apply c0|apply Jl|apply c1|apply c2|apply c3|exact Qa|apply Q3|(apply View.pure;exact Q4.out)|(apply mtake;first|assumption|exact Ux (by first|rfl|(simp;done))|exact rfl)|exact Jq.out|exact Qe.out|(apply mlen;first|exact rfl|assumption|exact Nat.le_of_ble_eq_true rfl|omega|(simp [Q1];done)|(simp [Q1];omega))|(apply mtake;first|assumption|exact Ux (by first|rfl|(simp;done))|exact rfl)|(apply mnat;first|exact Int.toNat_natCast _|exact rfl)|exact Bd.no _|(apply bd_at;exact Q0 rfl)|exact Q0 rfl|exact Ql|(apply Qg;exact Q0 rfl)|omega|exact rfl|fail)
end Go.Proofs.YtaolmfgpebncjaaGreat
