/- Heads: places by digest. -/
import Derived.Test.YtaolmfgpebncjaaGreatZr
set_option maxRecDepth 100000
set_option maxHeartbeats 3200000
set_option linter.unusedSimpArgs false
set_option linter.unusedVariables false
namespace Go.Proofs.YtaolmfgpebncjaaGreat
open Go.Av
attribute [local irreducible] T thenQ Uv Y0 Uz WX retV retR Gt Gts GtsP Qs CV CR Av.Pure
attribute [local irreducible] sha zerosL lz8 hdD Jw
theorem fiGo_map {α β:Type} (f:α->β) (p:β->Bool):∀ (l:List α) (i:Nat),fiGo p (l.map f) i = fiGo (λ x=>p (f x)) l i
 | [],i=>rfl
 | x::l,i=>by rw [List.map_cons,fiGo,fiGo,fiGo_map f p l (i + 1)]
theorem idxL_map {α β:Type} (f:α->β) (p:β->Bool) (l:List α):idxL p (l.map f) = idxL (λ x=>p (f x)) l:=fiGo_map f p l 0
def digOr (x:Hd):List UInt8:=if Jw x = 0 then hdD x else []
theorem digOr_ok {x:Hd} (h:Jw x = 0):digOr x = hdD x:=if_pos h
theorem digOrs {l:List Hd} (h:∀ x∈l,Jw x = 0):l.map digOr = l.map hdD:=List.map_congr_left λ x hx=>digOr_ok (h x hx)
theorem specDigOr_cv (x:Hd):CV Tryz.prog 110 [hdA x] (· = sl1 (bA (digOr x))):=by
 by_cases g:Jw x = 0
 ·rw [digOr_ok g]
  exact specHdDigest_cv x g
 ·rw [show digOr x = [] from if_neg g]
  refine J7 Qc Tryz.func110 (by kernel_rfl) rfl 8 rfl (by simp) [.tmp 2] rfl ?_
  intro w0 ok0
  have k0:=specHdFault_cv x
  have d0:(!decide (Jw x = 0)) = true:=by rw [decide_eq_false g];rfl
  repeat' (first|refine Qh ?_|refine Q9 ?_|refine J8 ?_|refine Q8 Qc ?_|refine Qi ?_|refine Qu ?_|(apply E_X<;>repeat' (first|exact J4|(apply J3;exact rfl)|(apply Qx;(iterate 6 exact rfl))|(apply J5;(iterate 4 exact rfl);(· (first|assumption|exact rfl)))|exact Qa|apply Q3|apply Jb|(apply Uu;exact rfl;(· first|exact rfl|assumption|(simp [Q1];done)|(simp [Q1];omega)|omega);exact Q6.out)|(apply U8;exact Q6.out)|apply Uh|apply Ul|(apply View.ofEq;exact Q4.out)|exact rfl))|(apply Jf;exact rfl;(· (first|assumption|exact rfl)))|apply Q2|(apply Yc;exact rfl;exact Q0 rfl;(iterate 6 exact rfl))|(apply Y4;exact Q0 rfl;exact Q0 rfl)|apply Yd|apply Qk (f:=113)|apply k0|exact Qa|apply Q3|(apply View.pure;exact Q4.out)|exact Jq.out|exact Q0 rfl|exact Ql|(apply Qg;exact Q0 rfl)|exact Q5 rfl rfl|exact rfl|fail)
def Yh (ds:List (List UInt8)) (d:List UInt8):Int:=idxL (λ w=>decide (w = d)) ds
theorem place_range (ds:List (List UInt8)) (d:List UInt8):Yh ds d = -1∨(0<=Yh ds d/\Yh ds d < ds.length):=idxL_range _ ds
theorem l5Place_cv (ds:List (List UInt8)) (d:List UInt8) (h:ds.length<=1000000) (hs:∀ w∈ds,w.length<=1000000) (hd:d.length<=1048576):CV Tryz.prog 111 [Y2 ds,byA d] (· = .int .i64 (Yh ds d)):=by
 refine J7 Qc Tryz.func111 (by kernel_rfl) rfl 19 rfl (by simp) [.tmp 4] rfl ?_
 intro w0 ok0
 have hml:(ds.map byA).length = ds.length:=by simp
 have hF:Yh ds d = fiGo (λ w=>decide (w = d)) (ds.drop 0) 0:=rfl
 repeat' (first|refine Qh ?_|refine Q9 ?_|refine Q8 Qc ?_|refine Qi ?_|refine Qo ?_|apply Q2|exact Q0 rfl|exact rfl|fail)
 refine Js (α:=Nat) (λ k=>⟨[(0,Y2 ds),(1,byA d),(5,.int .i64 k)],[],0⟩)
  (λ k=>ds.length - k) (λ k=>k<=ds.length/\Yh ds d = fiGo (λ w=>decide (w = d)) (ds.drop k) k) 0 ((Jp (by repeat' (first|exact Qy|refine Qr rfl ?_)) (by repeat' (first|exact Qz|refine Qt (by first|rfl|exact congrArg (λ l=>some (Box.mk l _ _ _)) hset) ?_)) (Nat.le_refl _))).sub ⟨by omega,hF⟩ ?_
 rintro k ⟨hk,hI⟩
 by_cases hkl:k < ds.length
 ·have d1:decide ((k:Int) < ((ds.map byA).length:Int)) = true:=decide_eq_true (by omega)
  have hget:=Uy byA ds [] (k:=k) (by omega)
  rw [fiGo_step _ ds [] hkl] at hI
  have hk2:=hs _ (getD_mem ds [] hkl)
  generalize ds.getD k [] = w at *
  have c0:=same_cv w d (by omega) (by omega)
  simp only [decide_eq_true_eq] at hI
  by_cases g:w = d
  ·rw [decide_eq_true g] at c0
   rw [if_pos g] at hI
   rw [hI]
   repeat' (first|refine Qh ?_|refine Q9 ?_|refine J8 ?_|refine Ui ?_|refine Ya ?_|refine Q8 Qc ?_|refine Qi ?_|refine Qw ?_|refine Qu ?_|refine Qo ?_|(apply Jr;exact rfl;(· (repeat' (first|exact Qb _ _|exact Qj _|exact Qn _);done)))|(apply Jf;exact rfl;(· (first|assumption|exact rfl)))|apply Qd|apply Q2|(apply Ue;exact rfl;exact Q0 rfl;exact rfl;(· (first|exact ⟨rfl,rfl⟩|exact ⟨rfl,trivial⟩|assumption)))|apply Jd|(apply Qp;exact rfl;exact Q0 rfl)|(apply Jk;exact rfl;exact rfl;exact Q0 rfl;exact Q0 rfl)|apply Qk (f:=114)|apply c0|exact Qa|apply Q3|(apply View.pure;exact Q4.out)|exact Jq.out|exact Q0 rfl|exact Ql|(apply Qg;exact Q0 rfl)|assumption|(refine ⟨?_,?_⟩<;>omega)|exact rfl|fail)
  ·rw [decide_eq_false g] at c0
   rw [if_neg g] at hI
   have hw:IntKind.wrap .i64 ((k:Int) + 1) = ((k + 1:Nat):Int):=by rw [wrap_i64 (by omega) (by omega)];omega
   repeat' (first|refine Qh ?_|refine Q9 ?_|refine U9 ?_|refine Q8 Qc ?_|refine Qi ?_|refine Qw ?_|refine Qo ?_|(apply Jf;exact rfl;(· (first|assumption|exact rfl)))|(apply J9;exact rfl;(· (first|assumption|exact rfl)))|apply Qd|apply Q2|(apply Ue;exact rfl;exact Q0 rfl;exact rfl;(· (first|exact ⟨rfl,rfl⟩|exact ⟨rfl,trivial⟩|assumption)))|apply Jd|apply Y7|(apply Qp;exact rfl;exact Q0 rfl)|(apply Jk;exact rfl;exact rfl;exact Q0 rfl;exact Q0 rfl)|apply Qk (f:=114)|apply c0|exact Qa|apply Q3|(apply View.pure;exact Q4.out)|exact Jq.out|exact Q0 rfl|exact Ql|(apply Qg;exact Q0 rfl)|assumption|(refine ⟨?_,?_⟩<;>omega)|exact rfl|fail)
   exact U7 (k + 1) ((Jp (by repeat' (first|exact Qy|refine Qr rfl ?_)) (by repeat' (first|exact Qz|refine Qt (by first|rfl|exact congrArg (λ l=>some (Box.mk l _ _ _)) hset) ?_)) (Nat.le_refl _))).sub ⟨by omega,hI⟩ (by omega)
 ·have d1:decide ((k:Int) < ((ds.map byA).length:Int)) = false:=decide_eq_false (by omega)
  obtain rfl:k = ds.length:=by omega
  rw [List.drop_length] at hI
  rw [hI]
  repeat' (first|refine Qh ?_|refine Q9 ?_|refine Ua ?_|refine Jt ?_|refine Jo ?_|refine Q8 Qc ?_|refine Qi ?_|refine Qu ?_|refine Un ?_|(apply Jr;exact rfl;(· (repeat' (first|exact Qb _ _|exact Qj _|exact Qn _);done)))|(apply J9;exact rfl;(· (first|assumption|exact rfl)))|apply Qd|apply Q2|apply Jd|(apply Qp;exact rfl;exact Q0 rfl)|exact Q0 rfl|exact rfl|fail)
theorem indexHd_cv (g:Nat) (caps:List AV) (l:List Hd) (p:Hd->Bool) (hp:Q4 (.fn g caps)) (hv:ViewL [] caps caps) (hl:l.length<=1000000000) (hc:∀ x∈l,CV Tryz.prog g (hdA x::caps) (· = .bool (p x))) :
  CV Tryz.prog 155 [hdAS l,.fn g caps] (· = .int .i64 (idxL p l)):=by
 refine J7 Qc Tryz.func155 (by kernel_rfl) rfl 19 rfl (by simp) [.tmp 4] rfl ?_
 intro w0 ok0
 have hml:(l.map hdA).length = l.length:=by simp
 have hF:idxL p l = fiGo p (l.drop 0) 0:=rfl
 repeat' (first|refine Qh ?_|refine Q9 ?_|refine Q8 Qc ?_|refine Qi ?_|refine Qo ?_|apply Qd|apply Q2|(apply Qp;exact rfl;exact Q0 rfl)|exact Q0 rfl|exact rfl|fail)
 refine Js (α:=Nat) (λ k=>⟨[(0,hdAS l),(1,.fn g caps),(7,.int .i64 (l.map hdA).length),(8,.int .i64 k)],[],0⟩)
  (λ k=>l.length - k) (λ k=>k<=l.length/\idxL p l = fiGo p (l.drop k) k) 0 ((Jp (by repeat' (first|exact Qy|refine Qr rfl ?_)) (by repeat' (first|exact Qz|refine Qt (by first|rfl|exact congrArg (λ l=>some (Box.mk l _ _ _)) hset) ?_)) (Nat.le_refl _))).sub ⟨by omega,hF⟩ ?_
 rintro k ⟨hk,hI⟩
 by_cases hkl:k < l.length
 ·have d:decide ((k:Int) < ((l.map hdA).length:Int)) = true:=by simp only [decide_eq_true_eq];omega
  have hget:=Uy hdA l Hd0 (k:=k) (by omega)
  rw [fiGo_step p l Hd0 hkl] at hI
  have c0:=hc _ (getD_mem l Hd0 hkl)
  by_cases he:p (l.getD k Hd0) = true
  ·rw [if_pos he] at hI
   rw [hI]
   rw [he] at c0
   repeat' (first|refine Qh ?_|refine Q9 ?_|refine J8 ?_|refine Ui ?_|refine Ya ?_|refine Q8 Qc ?_|refine Qi ?_|refine Qw ?_|refine Qu ?_|refine Qo ?_|(apply Jr;exact rfl;(· (repeat' (first|exact Qb _ _|exact Qj _|exact Qn _);done)))|(apply Jf;exact rfl;(· (first|assumption|exact rfl)))|apply Qd|apply Q2|(apply Uo;exact rfl;exact Q0 rfl;exact rfl;exact rfl)|apply Jd|(apply Jk;exact rfl;exact rfl;exact Q0 rfl;exact Q0 rfl)|apply S_callFC|apply c0|apply Q3|(apply View.pure;exact Q4.out)|exact Jq.out|exact Q0 rfl|exact Ql|(apply Qg;exact Q0 rfl)|assumption|(refine ⟨?_,?_⟩<;>omega)|exact rfl|fail)
  ·rw [if_neg he] at hI
   simp only [Bool.not_eq_true] at he
   rw [he] at c0
   have hw:IntKind.wrap .i64 ((k:Int) + 1) = ((k + 1:Nat):Int):=by rw [wrap_i64 (by omega) (by omega)];omega
   repeat' (first|refine Qh ?_|refine Q9 ?_|refine U9 ?_|refine Q8 Qc ?_|refine Qi ?_|refine Qw ?_|refine Qo ?_|(apply Jf;exact rfl;(· (first|assumption|exact rfl)))|(apply J9;exact rfl;(· (first|assumption|exact rfl)))|apply Qd|apply Q2|(apply Uo;exact rfl;exact Q0 rfl;exact rfl;exact rfl)|apply Jd|apply Y7|(apply Jk;exact rfl;exact rfl;exact Q0 rfl;exact Q0 rfl)|apply S_callFC|apply c0|apply Q3|(apply View.pure;exact Q4.out)|exact Jq.out|exact Q0 rfl|exact Ql|(apply Qg;exact Q0 rfl)|assumption|(refine ⟨?_,?_⟩<;>omega)|exact rfl|fail)
   exact U7 (k + 1) ((Jp (by repeat' (first|exact Qy|refine Qr rfl ?_)) (by repeat' (first|exact Qz|refine Qt (by first|rfl|exact congrArg (λ l=>some (Box.mk l _ _ _)) hset) ?_)) (Nat.le_refl _))).sub ⟨by omega,hI⟩ (by omega)
 ·have d:decide ((k:Int) < ((l.map hdA).length:Int)) = false:=by simp only [decide_eq_false_iff_not];omega
  obtain rfl:k = l.length:=by omega
  rw [List.drop_length] at hI
  rw [hI]
  repeat' (first|refine Qh ?_|refine Q9 ?_|refine Ua ?_|refine Jt ?_|refine Jo ?_|refine Q8 Qc ?_|refine Qi ?_|refine Qu ?_|refine Un ?_|(apply Jr;exact rfl;(· (repeat' (first|exact Qb _ _|exact Qj _|exact Qn _);done)))|(apply J9;exact rfl;(· (first|assumption|exact rfl)))|apply Q2|apply Jd|exact Q0 rfl|exact rfl|fail)
theorem containsHd_cv (g:Nat) (caps:List AV) (l:List Hd) (p:Hd->Bool) (hp:Q4 (.fn g caps)) (hv:ViewL [] caps caps) (hl:l.length<=1000000000) (hc:∀ x∈l,CV Tryz.prog g (hdA x::caps) (· = .bool (p x))) :
  CV Tryz.prog 137 [hdAS l,.fn g caps] (· = .bool (l.any p)):=by
 refine J7 Qc Tryz.func137 (by kernel_rfl) rfl 9 rfl (by simp) [.tmp 4] rfl ?_
 intro w0 ok0
 have c0:=indexHd_cv g caps l p hp hv hl hc
 rw [<-idxL_any]
 repeat' (first|refine Qh ?_|refine Q9 ?_|refine Q8 Qc ?_|refine Qi ?_|refine Qu ?_|(apply Jr;exact rfl;(· (repeat' (first|exact Qb _ _|exact Qj _|exact Qn _);done)))|apply Qd|apply Q2|apply S_geq|apply Qk (f:=155)|apply c0|exact Qa|apply Q3|(apply View.pure;exact Q4.out)|exact Jq.out|exact Q0 rfl|exact Ql|(apply Qg;exact Q0 rfl)|exact rfl|fail)
theorem joinFault1_cv (x:Hd) (d:List UInt8) (h:Jw x = 0):CV Tryz.prog 138 [hdA x,.vp [byA d]] (· = .bool (decide (hdD x = d))):=by
 refine J7 Qc Tryz.func138 (by kernel_rfl) rfl 8 rfl (by simp) [.tmp 3] rfl ?_
 intro w0 ok0
 have c0:=hdDigest_cv x h
 have c1:=equal_cv (hdD x) d
 repeat' (first|refine Qh ?_|refine Q9 ?_|refine Q8 Qc ?_|(apply T_drawM (id:=1) 3 Qc Uw;exact rfl;exact rfl;(· kernel_rfl);exact Nat.le_of_ble_eq_true rfl)|refine Qi ?_|refine Qu ?_|(apply Jr;exact rfl;(· (repeat' (first|exact Qb _ _|exact Qj _|exact Qn _);done)))|apply Q2|(apply Yc;exact rfl;exact Q0 rfl;(iterate 6 exact rfl))|(apply Ue;exact rfl;exact Q0 rfl;exact rfl;(· (first|exact ⟨rfl,rfl⟩|exact ⟨rfl,trivial⟩|assumption)))|apply Yd|apply Jl (f:=71)|apply c0|apply Qk (f:=91)|apply c1|exact Qa|apply Q3|(apply View.pure;exact Q4.out)|exact Jq.out|exact Qe.out|exact Q0 rfl|exact Ql|(apply Qg;exact Q0 rfl)|exact Q5 rfl rfl|exact rfl|fail)
theorem parentOf1_cv (x y:Hd) (h:Jw x = 0):CV Tryz.prog 165 [hdA x,.vp (hdAC y)] (· = .bool (decide (hdD x = y.parent))):=by
 refine J7 Qc Tryz.func165 (by kernel_rfl) rfl 9 rfl (by simp) [.tmp 3] rfl ?_
 intro w0 ok0
 have c0:=hdDigest_cv x h
 have c1:=equal_cv (hdD x) y.parent
 repeat' (first|refine Qh ?_|refine Q9 ?_|refine Q8 Qc ?_|(apply T_drawM (id:=1) 4 Qc Uw;exact rfl;exact rfl;(· kernel_rfl);exact Nat.le_of_ble_eq_true rfl)|refine Qi ?_|refine Qu ?_|(apply Jr;exact rfl;(· (repeat' (first|exact Qb _ _|exact Qj _|exact Qn _);done)))|apply Q2|(apply Yc;exact rfl;exact Q0 rfl;(iterate 6 exact rfl))|(apply Ue;exact rfl;exact Q0 rfl;exact rfl;(· (first|exact ⟨rfl,rfl⟩|exact ⟨rfl,trivial⟩|assumption)))|(apply S_fieldV;(iterate 4 exact rfl);exact Q0 rfl)|apply Yd|apply Jl (f:=71)|apply c0|apply Qk (f:=91)|apply c1|exact Qa|apply Q3|(apply View.pure;exact Q4.out)|exact Jq.out|exact Qe.out|exact Q0 rfl|exact Ql|(apply Qg;exact Q0 rfl)|exact Q5 rfl rfl|exact rfl|fail)
theorem parentOf_cv (l:List Hd) (y:Hd) (h:l.length<=1000000) (hl:∀ x∈l,Jw x = 0):CV Tryz.prog 119 [hdAS l,hdA y] (· = .int .i64 (Yh (l.map hdD) y.parent)):=by
 have e:Yh (l.map hdD) y.parent = idxL (λ x=>decide (hdD x = y.parent)) l:=idxL_map hdD _ l
 rw [e]
 refine J7 Qc Tryz.func119 (by kernel_rfl) rfl 8 rfl (by simp) [.tmp 4] rfl ?_
 intro w0 ok0
 have c0:=indexHd_cv 165 [.vp (hdAC y)] l (λ x=>decide (hdD x = y.parent)) inferInstance (by repeat' (first|exact Qa|apply Q3|(apply View.pure;exact Q4.out))) (by omega) (λ x hx=>parentOf1_cv x y (hl x hx))
 repeat' (first|refine Qh ?_|refine Q9 ?_|refine Q8 Qc ?_|refine Qi ?_|refine Qu ?_|(apply Jr;exact rfl;(· (repeat' (first|exact Qb _ _|exact Qj _|exact Qn _);done)))|apply Qd|apply Q2|apply Yd|apply S_mkfn|apply Qk (f:=155)|apply c0|exact Qa|apply Q3|(apply View.pure;exact Q4.out)|(apply view_ptr;exact rfl;exact rfl)|exact Jq.out|apply view_fn|exact Q0 rfl|exact Ql|(apply Qg;exact Q0 rfl)|exact Q5 rfl rfl|exact rfl|fail)
end Go.Proofs.YtaolmfgpebncjaaGreat
