/- Mining: the least nonce that is hard enough. -/
import Derived.Test.YtaolmfgpebncjaaGreatZr
set_option maxRecDepth 100000
set_option maxHeartbeats 3200000
set_option linter.unusedSimpArgs false
set_option linter.unusedVariables false
namespace Go.Proofs.YtaolmfgpebncjaaGreat
open Go.Av
attribute [local irreducible] T thenQ Uv Y0 Uz WX retV retR Gt Gts GtsP Qs CV CR Av.Pure
attribute [local irreducible] sha zerosL lz8 Jw putN Uk
def mineGo (P:List UInt8) (z:Int):Nat->Nat->Int
 | 0,_=>-1
 | f + 1,i=>if z<=(zerosL (sha (P++putN (i:Int))):Int) then (i:Int) else mineGo P z f (i + 1)
def mineL (P:List UInt8) (z tries:Int):Int:=mineGo P z tries.toNat 0
theorem mineGo_range (P:List UInt8) (z:Int):∀ (f i:Nat),mineGo P z f i = -1∨((i:Int)<=mineGo P z f i/\mineGo P z f i < ((i + f:Nat):Int))
 | 0,i=>.inl rfl
 | f + 1,i=>by
   rw [mineGo]
   split
   ·exact .inr ⟨by omega,by omega⟩
   ·have:=mineGo_range P z f (i + 1)
    omega
theorem mineGo_step (P:List UInt8) (z:Int) {t i:Nat} (h:i < t):mineGo P z (t - i) i = if z<=(zerosL (sha (P++putN (i:Int))):Int) then (i:Int) else mineGo P z (t - (i + 1)) (i + 1):=by
 rw [show t - i = (t - (i + 1)) + 1 by omega,mineGo]
theorem mineL_range (P:List UInt8) (z:Int) {tries:Int} (h:0<=tries):mineL P z tries = -1∨(0<=mineL P z tries/\mineL P z tries < tries):=by
 have:=mineGo_range P z tries.toNat 0
 unfold mineL
 omega
theorem sha_pair (P Q:List UInt8) (hP:P.length<=1000) (hQ:Q.length<=1000):CV Tryz.prog 128 [.ls 1 false true [byA P,byA Q]] (· = sl1 (bA (sha (P++Q)))):=by
 have e:[P,Q].flatten = P++Q:=by simp
 have c4:CV Tryz.prog 128 [sl1 ([P,Q].map byA)] (· = sl1 (bA (sha (P++Q)))):=CR.byVal (digest_cr [P,Q] (by rw [e,List.length_append];omega) (by simp) 0) (by rw [Q1,sha_length]) (Yi _) |>.mono (λ y hy=>by rw [hy,e])
 exact c4.args rfl (loose1 (loose_ls _ _ _ _))
theorem easiest_cv (P:List UInt8) (z tries:Int) (hP:P.length<=500) (ht:0<=tries/\tries<=5000) :
  CV Tryz.prog 136 [byA P,.int .i64 z,.int .i64 0,.int .i64 tries] (· = /-flat-/ .tup [.int .i64 (if 0<=mineL P z tries then mineL P z tries else 0),.bool (decide (0<=mineL P z tries))]):=by
 refine J7 Qc Tryz.func136 (by kernel_rfl) rfl 28 rfl (by simp) [.tmp 8,.tmp 9] rfl ?_
 intro w0 ok0
 have w0:IntKind.wrap .i64 (0 + tries) = tries:=by rw [Int.zero_add];exact wrap_i64 (by omega) (by omega)
 have hF:mineL P z tries = mineGo P z (tries.toNat - 0) 0:=rfl
 rw [hF]
 generalize hR:mineGo P z (tries.toNat - 0) 0 = R at *
 repeat' (first|refine Qh ?_|refine Q9 ?_|refine Q8 Qc ?_|refine Qi ?_|refine Qo ?_|apply Qd|apply Q2|exact Q0 rfl|exact rfl|fail)
 refine Js (α:=Nat) (λ k=>⟨[(0,byA P),(1,.int .i64 z),(2,.int .i64 0),(3,.int .i64 tries),(10,.int .i64 k)],[],0⟩)
  (λ k=>tries.toNat - k) (λ k=>k<=tries.toNat/\R = mineGo P z (tries.toNat - k) k) 0 ((Jp (by repeat' (first|exact Qy|refine Qr rfl ?_)) (by repeat' (first|exact Qz|refine Qt (by first|rfl|exact congrArg (λ l=>some (Box.mk l _ _ _)) hset) ?_)) (Nat.le_refl _))).sub ⟨by omega,hR.symm⟩ ?_
 rintro k ⟨hk,hI⟩
 by_cases hkl:k < tries.toNat
 ·have d1:decide ((k:Int) < tries) = true:=decide_eq_true (by omega)
  rw [mineGo_step P z hkl] at hI
  have c0:=number_cv (k:Int)
  have hq:=putN_length (k:Int)
  generalize putN (k:Int) = Q at *
  have c1:=sha_pair P Q (by omega) (by omega)
  have hs:=sha_length (P++Q)
  have c2:=zerosOf_cv (sha (P++Q)) (by omega)
  have hw:IntKind.wrap .i64 ((k:Int) + 1) = ((k + 1:Nat):Int):=by rw [wrap_i64 (by omega) (by omega)];omega
  by_cases g:z<=(zerosL (sha (P++Q)):Int)
  ·rw [if_pos g] at hI
   have d2:=decide_eq_true g
   have e1:(if 0<=R then R else 0) = (k:Int):=by rw [hI,if_pos (by omega)]
   have e2:decide (0<=R) = true:=decide_eq_true (by omega)
   rw [e1,e2]
   repeat' (first|refine Qh ?_|refine Q9 ?_|refine J8 ?_|refine Ui ?_|refine Ya ?_|refine Q8 Qc ?_|refine Qi ?_|refine Qw ?_|refine Qu ?_|refine Qo ?_|(apply E_X<;>repeat' (first|exact J4|(apply J3;exact rfl)|(apply Qx;(iterate 6 exact rfl))|(apply J5;(iterate 4 exact rfl);(· (first|assumption|exact rfl)))|exact Qa|apply Q3|apply Jb|(apply Uu;exact rfl;(· first|exact rfl|assumption|(simp [Q1];done)|(simp [Q1];omega)|omega);exact Q6.out)|(apply U8;exact Q6.out)|apply Uh|apply Ul|(apply View.ofEq;exact Q4.out)|exact rfl))|(apply Jf;exact rfl;(· (first|assumption|exact rfl)))|apply Qd|apply Q2|apply Jd|apply S_geq|apply Y7|(apply S_buildV Qc;exact rfl;exact rfl)|apply Jl (f:=131)|apply c0|apply Jl (f:=128)|apply c1|apply Qk (f:=150)|apply c2|exact Qa|apply Q3|exact viewE_pure Q6.out|apply view_lsV|exact Jq.out|exact Qe.out|exact U4|(apply Ug;exact Q0 rfl)|exact Uc|apply Uq|(intro hu;cases hu;done)|exact Q0 rfl|exact Ql|(apply Qg;exact Q0 rfl)|exact Q5 rfl rfl|assumption|exact Nat.le_of_ble_eq_true rfl|exact rfl|fail)
  ·rw [if_neg g] at hI
   have d2:=decide_eq_false g
   repeat' (first|refine Qh ?_|refine Q9 ?_|refine U9 ?_|refine Q8 Qc ?_|refine Qi ?_|refine Qw ?_|refine Qo ?_|(apply Jf;exact rfl;(· (first|assumption|exact rfl)))|(apply J9;exact rfl;(· (first|assumption|exact rfl)))|apply Qd|apply Q2|apply Jd|apply S_geq|apply Y7|(apply S_buildV Qc;exact rfl;exact rfl)|apply Jl (f:=131)|apply c0|apply Jl (f:=128)|apply c1|apply Qk (f:=150)|apply c2|exact Qa|apply Q3|exact viewE_pure Q6.out|apply view_lsV|exact Jq.out|exact Qe.out|exact U4|(apply Ug;exact Q0 rfl)|exact Uc|apply Uq|(intro hu;cases hu;done)|exact Q0 rfl|exact Ql|(apply Qg;exact Q0 rfl)|exact Q5 rfl rfl|assumption|exact Nat.le_of_ble_eq_true rfl|exact rfl|fail)
   exact U7 (k + 1) ((Jp (by repeat' (first|exact Qy|refine Qr rfl ?_)) (by repeat' (first|exact Qz|refine Qt (by first|rfl|exact congrArg (λ l=>some (Box.mk l _ _ _)) hset) ?_)) (Nat.le_refl _))).sub ⟨by omega,hI⟩ (by omega)
 ·have d1:decide ((k:Int) < tries) = false:=decide_eq_false (by omega)
  obtain rfl:k = tries.toNat:=by omega
  rw [Nat.sub_self,mineGo] at hI
  have e1:(if 0<=R then R else 0) = 0:=if_neg (by omega)
  have e2:decide (0<=R) = false:=decide_eq_false (by omega)
  rw [e1,e2]
  repeat' (first|refine Qh ?_|refine Q9 ?_|refine Ua ?_|refine Jt ?_|refine Jo ?_|refine Q8 Qc ?_|refine Qi ?_|refine Qu ?_|refine Un ?_|(apply E_X<;>repeat' (first|exact J4|(apply J3;exact rfl)|(apply Qx;(iterate 6 exact rfl))|(apply J5;(iterate 4 exact rfl);(· (first|assumption|exact rfl)))|exact Qa|apply Q3|apply Jb|(apply Uu;exact rfl;(· first|exact rfl|assumption|(simp [Q1];done)|(simp [Q1];omega)|omega);exact Q6.out)|(apply U8;exact Q6.out)|apply Uh|apply Ul|(apply View.ofEq;exact Q4.out)|exact rfl))|(apply J9;exact rfl;(· (first|assumption|exact rfl)))|apply Qd|apply Q2|apply Jd|apply Y7|exact Q0 rfl|assumption|exact rfl|fail)
theorem easiestNonce_cv (P:List UInt8) (z tries:Int) (hP:P.length<=500) (hz:0<=z/\z<=40) (ht:0<=tries/\tries<=5000) :
  CV Tryz.prog 167 [byA P,.int .i64 z,.int .i64 0,.int .i64 tries] (· = /-flat-/ .agg [.int .i64 (if 0<=mineL P z tries then 0 else 4),.int .i64 (if 0<=mineL P z tries then mineL P z tries else 0)]):=by
 refine J7 Qc Tryz.func167 (by kernel_rfl) rfl 45 rfl (by simp) [.cell 8 73] rfl ?_
 intro w0 ok0
 have w0:IntKind.wrap .i64 (0 + tries) = tries:=by rw [Int.zero_add];exact wrap_i64 (by omega) (by omega)
 have hF:mineL P z tries = mineGo P z (tries.toNat - 0) 0:=rfl
 rw [hF]
 generalize hR:mineGo P z (tries.toNat - 0) 0 = R at *
 have r1:=rng_t hz
 have r2:=rng_t ht
 repeat' (first|refine Qh ?_|refine Q9 ?_|refine Q8 Qc ?_|refine Qi ?_|refine Qw ?_|refine Qo ?_|(apply J9;exact rfl;(· (first|assumption|exact rfl)))|(apply S_gf;exact rfl;exact rfl;(· (first|assumption|exact rfl)))|apply Qd|apply Q2|(apply Uj;exact Q0 rfl;(· (first|assumption|exact rfl)))|apply S_not|apply U0|apply Qk (f:=53)|apply l1In_cv|exact Qa|apply Q3|(apply View.pure;exact Q4.out)|exact Jq.out|exact Q0 rfl|exact Ql|(apply Qg;exact Q0 rfl)|exact Q5 rfl rfl|exact rfl|fail)
 refine Js (α:=Nat) (λ k=>⟨[(0,byA P),(1,.int .i64 z),(2,.int .i64 0),(3,.int .i64 tries),(8,.ptr 0 0 0),(9,.int .i64 k)],[(0,some ⟨[.agg [.int .i64 0,.int .i64 0]],2,false,false⟩)],1⟩)
  (λ k=>tries.toNat - k) (λ k=>k<=tries.toNat/\R = mineGo P z (tries.toNat - k) k) 0 ((Jp (by repeat' (first|exact Qy|refine Qr rfl ?_)) (by repeat' (first|exact Qz|refine Qt (by first|rfl|exact congrArg (λ l=>some (Box.mk l _ _ _)) hset) ?_)) (Nat.le_refl _))).sub ⟨by omega,hR.symm⟩ ?_
 rintro k ⟨hk,hI⟩
 by_cases hkl:k < tries.toNat
 ·have d1:decide ((k:Int) < tries) = true:=decide_eq_true (by omega)
  rw [mineGo_step P z hkl] at hI
  have c0:=l1Put_cv (k:Int)
  have hq:=putN_length (k:Int)
  generalize putN (k:Int) = Q at *
  have hv:bA P++bA Q = bA (P++Q):=by rw [bA_app]
  have hp:=Q1 P
  have hq2:=Q1 Q
  have c1:∀ N,CR Tryz.prog 171 [sl1 (bA P++bA Q)] [] N (Is (.sl N 0 32 32) [(N,some ⟨bA (sha (P++Q)),1,true,false⟩)] (N + 1)):=λ N=>by rw [hv];exact specDigest_cr (P++Q) (by rw [List.length_append];omega) N
  have hs:=sha_length (P++Q)
  have hs2:=Q1 (sha (P++Q))
  have c2:=specZerosOf_cv (sha (P++Q)) (by omega)
  have hw:IntKind.wrap .i64 ((k:Int) + 1) = ((k + 1:Nat):Int):=by rw [wrap_i64 (by omega) (by omega)];omega
  by_cases g:z<=(zerosL (sha (P++Q)):Int)
  ·rw [if_pos g] at hI
   have d2:=decide_eq_true g
   have e1:(if 0<=R then R else 0) = (k:Int):=by rw [hI,if_pos (by omega)]
   have e2:(if 0<=R then (0:Int) else 4) = 0:=if_pos (by omega)
   rw [e1,e2]
   repeat' (first|refine Qh ?_|refine Q9 ?_|refine J8 ?_|refine Ui ?_|refine Ya ?_|refine Q8 Qc ?_|refine Qi ?_|refine Qw ?_|refine Qu ?_|refine Qo ?_|(apply E_X<;>repeat' (first|exact J4|(apply J3;exact rfl)|(apply Qx;(iterate 6 exact rfl))|(apply J5;(iterate 4 exact rfl);(· (first|assumption|exact rfl)))|exact Qa|apply Q3|apply Jb|(apply Uu;exact rfl;(· first|exact rfl|assumption|(simp [Q1];done)|(simp [Q1];omega)|omega);exact Q6.out)|(apply U8;exact Q6.out)|apply Uh|apply Ul|(apply View.ofEq;exact Q4.out)|exact rfl))|(apply Jf;exact rfl;(· (first|assumption|exact rfl)))|apply Qd|apply Jd|apply S_geq|apply Y7|(apply Jg;exact rfl;exact Q0 rfl;(iterate 4 exact rfl))|(apply S_build;(iterate 3 exact rfl);(· (repeat' (first|exact gtsP_nil|exact Q0 rfl|apply gtsP_cons)));(· (repeat' (first|exact BuildR.nil _|(apply BuildR.cons;(iterate 4 exact rfl);(· (first|nofun|assumption));(· (repeat' constructor)))))))|(apply M_appB;exact rfl;exact rfl;exact Q0 rfl)|(apply S_buildL Qc (ps:=[]);(iterate 3 exact rfl))|apply Jl (f:=172)|apply c0|apply S_callI (f:=171)|apply c1|apply Qk (f:=164)|apply c2|exact Qa|apply Q3|(apply view_slM;exact rfl;(· (apply mlen;first|exact rfl|assumption|exact Nat.le_of_ble_eq_true rfl|omega|(simp [Q1];done)|(simp [Q1];omega)));exact Q6.out)|exact Jq.out|exact OwnC.out|exact ownB_nil|(apply ownB_boxM;(· (apply mlen;first|exact rfl|assumption|exact Nat.le_of_ble_eq_true rfl|omega|(simp [Q1];done)|(simp [Q1];omega)));exact OwnEC.out)|exact Qe.out|(apply mlen;first|exact rfl|assumption|exact Nat.le_of_ble_eq_true rfl|omega|(simp [Q1];done)|(simp [Q1];omega))|(apply msz;first|assumption|exact Nat.le_of_ble_eq_true rfl|(dsimp only;simp only [List.length_append,List.length_map,List.length_cons,List.length_nil,Q1,List.length_take,List.length_drop,List.length_replicate] at *;omega)|(dsimp only;omega))|(apply mnorm;first|with_reducible exact app_nil0 _|exact app_norm _ _|exact rfl)|exact Src.ls rfl rfl|(dsimp only;omega)|exact U4|exact Uc|exact Q0 rfl|exact Ql|(apply Qg;exact Q0 rfl)|exact Q5 rfl rfl|assumption|omega|exact rfl|fail)
  ·rw [if_neg g] at hI
   have d2:=decide_eq_false g
   repeat' (first|refine Qh ?_|refine Q9 ?_|refine U9 ?_|refine Q8 Qc ?_|refine Qi ?_|refine Qw ?_|refine Qo ?_|(apply Jf;exact rfl;(· (first|assumption|exact rfl)))|(apply J9;exact rfl;(· (first|assumption|exact rfl)))|apply Qd|apply Q2|apply Jd|apply S_geq|apply Y7|(apply M_appB;exact rfl;exact rfl;exact Q0 rfl)|(apply S_buildL Qc (ps:=[]);(iterate 3 exact rfl))|apply Jl (f:=172)|apply c0|apply S_callI (f:=171)|apply c1|apply Qk (f:=164)|apply c2|exact Qa|apply Q3|(apply view_slM;exact rfl;(· (apply mlen;first|exact rfl|assumption|exact Nat.le_of_ble_eq_true rfl|omega|(simp [Q1];done)|(simp [Q1];omega)));exact Q6.out)|exact Jq.out|exact OwnC.out|exact ownB_nil|(apply ownB_boxM;(· (apply mlen;first|exact rfl|assumption|exact Nat.le_of_ble_eq_true rfl|omega|(simp [Q1];done)|(simp [Q1];omega)));exact OwnEC.out)|exact Qe.out|(apply mlen;first|exact rfl|assumption|exact Nat.le_of_ble_eq_true rfl|omega|(simp [Q1];done)|(simp [Q1];omega))|(apply msz;first|assumption|exact Nat.le_of_ble_eq_true rfl|(dsimp only;simp only [List.length_append,List.length_map,List.length_cons,List.length_nil,Q1,List.length_take,List.length_drop,List.length_replicate] at *;omega)|(dsimp only;omega))|(apply mnorm;first|with_reducible exact app_nil0 _|exact app_norm _ _|exact rfl)|exact Src.ls rfl rfl|(dsimp only;omega)|exact U4|exact Uc|exact Q0 rfl|exact Ql|(apply Qg;exact Q0 rfl)|assumption|omega|exact rfl|fail)
   exact U7 (k + 1) (sub_drop (by repeat' (first|exact Qy|refine Qr rfl ?_)) (by repeat' (first|exact Qz|refine Qt rfl ?_)) (by repeat' (first|exact lowE_nil|apply Ye|exact Low.sl _ _ _ _ (by decide)|exact Low.ptr _ _ _ (by decide)|(apply Low.pure;(first|exact Q4.out|exact Qe.out|assumption))|exact J0|apply Qq|apply U3|apply U2)) (by repeat' (first|exact lowB_nil|refine lowB_cons (by decide) (by (apply Uf.low;exact Q6.out)) ?_)) (Nat.zero_le _)) ⟨by omega,hI⟩ (by omega)
 ·have d1:decide ((k:Int) < tries) = false:=decide_eq_false (by omega)
  obtain rfl:k = tries.toNat:=by omega
  rw [Nat.sub_self,mineGo] at hI
  have e1:(if 0<=R then R else 0) = 0:=if_neg (by omega)
  have e2:(if 0<=R then (0:Int) else 4) = 4:=if_neg (by omega)
  rw [e1,e2]
  repeat' (first|refine Qh ?_|refine Q9 ?_|refine Ua ?_|refine Jt ?_|refine Jo ?_|refine Q8 Qc ?_|refine Qi ?_|refine Qu ?_|refine Un ?_|(apply E_X<;>repeat' (first|exact J4|(apply J3;exact rfl)|(apply Qx;(iterate 6 exact rfl))|(apply J5;(iterate 4 exact rfl);(· (first|assumption|exact rfl)))|exact Qa|apply Q3|apply Jb|(apply Uu;exact rfl;(· first|exact rfl|assumption|(simp [Q1];done)|(simp [Q1];omega)|omega);exact Q6.out)|(apply U8;exact Q6.out)|apply Uh|apply Ul|(apply View.ofEq;exact Q4.out)|exact rfl))|(apply J9;exact rfl;(· (first|assumption|exact rfl)))|apply Qd|apply Jd|apply Y7|(apply Jg;exact rfl;exact Q0 rfl;(iterate 4 exact rfl))|(apply S_build;(iterate 3 exact rfl);(· (repeat' (first|exact gtsP_nil|exact Q0 rfl|apply gtsP_cons)));(· (repeat' (first|exact BuildR.nil _|(apply BuildR.cons;(iterate 4 exact rfl);(· (first|nofun|assumption));(· (repeat' constructor)))))))|exact Q0 rfl|exact Q5 rfl rfl|assumption|exact rfl|fail)
/-! heads that are mined -/
def withN (x:Hd) (n:Int):Hd:=⟨x.parent,x.height,x.time,x.zeros,x.root,n⟩
def Y8 (x:Hd) (tries:Int):Int:=mineL (Uk (hdWs x)) x.zeros tries
theorem mineH_range (x:Hd) {tries:Int} (h:0<=tries):Y8 x tries = -1∨(0<=Y8 x tries/\Y8 x tries < tries):=mineL_range _ _ h
def mnCode (x:Hd) (tries:Int):Int:=if Jw x≠0 then Jw x else if ¬ (0<=tries/\tries<=5000) then 3 else if 0<=Y8 x tries then 0 else 4
def mnHead (x:Hd) (tries:Int):Hd:=if mnCode x tries = 0 then withN x (Y8 x tries) else Hd0
theorem mn_bad {x:Hd} {t:Int} (h:Jw x≠0):mnCode x t = Jw x/\mnHead x t = Hd0:=by
 have:mnCode x t = Jw x:=if_pos h
 exact ⟨this,if_neg (by rw [this];exact h)⟩
theorem mn_range {x:Hd} {t:Int} (h:Jw x = 0) (h1:¬ (0<=t/\t<=5000)):mnCode x t = 3/\mnHead x t = Hd0:=by
 have:mnCode x t = 3:=by unfold mnCode;rw [if_neg (λ q=>q h),if_pos h1]
 exact ⟨this,if_neg (by rw [this];decide)⟩
theorem mn_none {x:Hd} {t:Int} (h:Jw x = 0) (h1:0<=t/\t<=5000) (h2:¬ 0<=Y8 x t):mnCode x t = 4/\mnHead x t = Hd0:=by
 have:mnCode x t = 4:=by unfold mnCode;rw [if_neg (λ q=>q h),if_neg (λ q=>q h1),if_neg h2]
 exact ⟨this,if_neg (by rw [this];decide)⟩
theorem mn_ok {x:Hd} {t:Int} (h:Jw x = 0) (h1:0<=t/\t<=5000) (h2:0<=Y8 x t):mnCode x t = 0/\mnHead x t = withN x (Y8 x t):=by
 have:mnCode x t = 0:=by unfold mnCode;rw [if_neg (λ q=>q h),if_neg (λ q=>q h1),if_pos h2]
 exact ⟨this,if_pos this⟩
abbrev hdB (i j:Nat) (x:Hd):AV:=.agg [.sl i 0 x.parent.length x.parent.length,.int .i64 x.height,.int .i64 x.time,.int .i64 x.zeros,.sl j 0 x.root.length x.root.length,.int .i64 x.nonce]
abbrev hdResB (i j:Nat) (c:Int) (x:Hd):AV:=.agg [.int .i64 c,.sl i 0 x.parent.length x.parent.length,.int .i64 x.height,.int .i64 x.time,.int .i64 x.zeros,.sl j 0 x.root.length x.root.length,.int .i64 x.nonce]
abbrev hdResA (c:Int) (x:Hd):AV:=.agg [.int .i64 c,byA x.parent,.int .i64 x.height,.int .i64 x.time,.int .i64 x.zeros,byA x.root,.int .i64 x.nonce]
abbrev boxH (s:Bool) (b:List UInt8):Option Box:=some ⟨bA b,1,s,false⟩
end Go.Proofs.YtaolmfgpebncjaaGreat
