/- Heads of the chain of work: their digests, and what they weigh. -/
import Derived.Test.YtaolmfgpebncjaaGreatXa
import Derived.Test.YtaolmfgpebncjaaGreatZc
import Derived.Test.YtaolmfgpebncjaaGreatZh
set_option maxRecDepth 100000
set_option maxHeartbeats 3200000
set_option linter.unusedSimpArgs false
set_option linter.unusedVariables false
namespace Go.Proofs.YtaolmfgpebncjaaGreat
open Go.Av
attribute [local irreducible] T thenQ Uv Y0 Uz WX retV retR Gt Gts GtsP Qs CV CR Av.Pure
attribute [local irreducible] sha
def lz8 (c:Nat):Nat:=if 128<=c then 0 else if 64<=c then 1 else if 32<=c then 2 else if 16<=c then 3 else if 8<=c then 4 else if 4<=c then 5 else if 2<=c then 6 else if 1<=c then 7 else 8
def zerosL:List UInt8->Nat
 | []=>0
 | c::l=>if c.toNat = 0 then 8 + zerosL l else lz8 c.toNat
theorem lz8_le (c:Nat):lz8 c<=8:=by
 unfold lz8
 repeat' split
 all_goals omega
theorem zerosL_le:∀ l:List UInt8,zerosL l<=8 * l.length
 | []=>Nat.le_refl _
 | c::l=>by
   have h1:=zerosL_le l
   have h2:=lz8_le c.toNat
   rw [zerosL,List.length_cons]
   split<;>omega
theorem zerosL_step (l:List UInt8) {k:Nat} (h:k < l.length):zerosL (l.drop k) = if (l.getD k 0).toNat = 0 then 8 + zerosL (l.drop (k + 1)) else lz8 (l.getD k 0).toNat:=by
 rw [List.drop_eq_getElem_cons h,zerosL]
 simp only [List.getD_eq_getElem?_getD,List.getElem?_eq_getElem h,Option.getD_some]
/-! heads -/
def Jw (x:Hd):Int :=
 if rows32 [x.parent,x.root] = false then 1 else if ¬ ((0<=x.height/\x.height<=1000000)/\(0<=x.time/\x.time<=1099511627776)/\(0<=x.zeros/\x.zeros<=40)/\(0<=x.nonce/\x.nonce<=2199023255552)) then 3 else 0
theorem hd_form {x:Hd} (h:rows32 [x.parent,x.root] = false):Jw x = 1:=if_pos h
theorem hd_range {x:Hd} (h:rows32 [x.parent,x.root] = true) (h2:¬ ((0<=x.height/\x.height<=1000000)/\(0<=x.time/\x.time<=1099511627776)/\(0<=x.zeros/\x.zeros<=40)/\(0<=x.nonce/\x.nonce<=2199023255552))):Jw x = 3:=by
 unfold Jw;rw [if_neg (by rw [h];decide),if_pos h2]
theorem hd_ok {x:Hd} (h:rows32 [x.parent,x.root] = true) (h2:(0<=x.height/\x.height<=1000000)/\(0<=x.time/\x.time<=1099511627776)/\(0<=x.zeros/\x.zeros<=40)/\(0<=x.nonce/\x.nonce<=2199023255552)):Jw x = 0:=by
 unfold Jw;rw [if_neg (by rw [h];decide),if_neg (λ k=>k h2)]
theorem hd_zero {x:Hd} (h:Jw x = 0):(x.parent.length = 32/\x.root.length = 32)/\(0<=x.height/\x.height<=1000000)/\(0<=x.time/\x.time<=1099511627776)/\(0<=x.zeros/\x.zeros<=40)/\(0<=x.nonce/\x.nonce<=2199023255552):=by
 unfold Jw at h
 split at h
 ·cases h
 ·split at h
  ·cases h
  ·rename_i a b
   refine ⟨?_,Classical.not_not.1 b⟩
   unfold rows32 at a
   simpa using a
def hdWs (x:Hd):List (List UInt8):=[x.parent,putN x.height,putN x.time,putN x.zeros,x.root]
def hdD (x:Hd):List UInt8:=sha (Uk (hdWs x)++putN x.nonce)
theorem hdD_length (x:Hd):(hdD x).length = 32:=sha_length _
theorem packL_bound' {ws:List (List UInt8)} {b:Nat} (h:∀ w∈ws,w.length<=b):(Uk ws).length<=(b + 1) * ws.length:=by
 induction ws with
 | nil=>simp [Uk]
 | cons w ws ih =>
   have h1:=ih λ x hx=>h x (by simp [hx])
   have h2:=h w (by simp)
   have h3:Uk (w::ws) = (byteN w.length::w)++Uk ws:=by simp [Uk]
   rw [h3,List.length_append,List.length_cons,List.length_cons,Nat.mul_add]
   omega
theorem hdWs_pack {x:Hd} (h:Jw x = 0):(hdWs x).length = 5/\(∀ w∈hdWs x,w.length<=32)/\(Uk (hdWs x)).length<=165:=by
 obtain ⟨⟨h1,h2⟩,_⟩:=hd_zero h
 have hm:∀ w∈hdWs x,w.length<=32:=by
  intro w hw
  simp only [hdWs,List.mem_cons,List.not_mem_nil,or_false] at hw
  rcases hw with rfl|rfl|rfl|rfl|rfl
  ·omega
  ·rw [putN_length];decide
  ·rw [putN_length];decide
  ·rw [putN_length];decide
  ·omega
 have:=packL_bound' hm
 have h5:(hdWs x).length = 5:=rfl
 rw [h5] at this
 exact ⟨rfl,hm,this⟩
attribute [local irreducible] putN Uk
theorem isZeros_cv (n:Int):CV Tryz.prog 94 [.int .i64 n] (· = .bool (decide (0<=n) && decide (n<=40))):=by
 refine J7 Qc Tryz.func94 (by kernel_rfl) rfl 5 rfl (by simp) [.tmp 2] rfl ?_
 intro w0 ok0
 repeat' (first|refine Qh ?_|refine Q9 ?_|refine Q8 Qc ?_|refine Qi ?_|refine Qu ?_|(apply Jr;exact rfl;(· (repeat' (first|exact Qb _ _|exact Qj _|exact Qn _);done)))|apply Qd|apply Q2|apply Qk (f:=57)|apply in_cv|exact Qa|apply Q3|(apply View.pure;exact Q4.out)|exact Jq.out|exact Q0 rfl|exact Ql|(apply Qg;exact Q0 rfl)|exact rfl|fail)
theorem hdFault_cv (x:Hd):CV Tryz.prog 90 [hdA x] (· = .int .i64 (Jw x)):=by
 refine J7 Qc Tryz.func90 (by kernel_rfl) rfl 34 rfl (by simp) [.tmp 2] rfl ?_
 intro w0 ok0
 have c0:=areDigests_cv [x.parent,x.root] (by simp)
 cases g1:rows32 [x.parent,x.root] with
 | false =>
   rw [g1] at c0
   rw [hd_form g1]
   have d0:(!false) = true:=rfl
   repeat' (first|refine Qh ?_|refine Q9 ?_|refine J8 ?_|refine Ui ?_|refine Q8 Qc ?_|refine Qi ?_|refine Qu ?_|refine Qo ?_|(apply Jr;exact rfl;(· (repeat' (first|exact Qb _ _|exact Qj _|exact Qn _);done)))|(apply Jf;exact rfl;(· (first|assumption|exact rfl)))|apply Q2|(apply Jj;exact rfl;exact Q0 rfl;(iterate 3 exact rfl);(· (first|exact ⟨rfl,rfl⟩|exact ⟨rfl,trivial⟩|assumption)))|(apply J6;(iterate 4 exact rfl);exact Q0 rfl)|apply S_not|apply Yd|(apply S_buildV Qc;exact rfl;exact rfl)|apply Qk (f:=149)|apply c0|exact Qa|apply Q3|exact viewE_nil|apply viewE_one|exact viewE_pure Q6.out|apply view_lsV|exact Jq.out|exact U4|(apply Ug;exact Q0 rfl)|exact Uc|apply Uq|(intro hu;cases hu;done)|exact Q0 rfl|exact Ql|(apply Qg;exact Q0 rfl)|exact Q5 rfl rfl|assumption|exact Nat.le_of_ble_eq_true rfl|exact rfl|fail)
 | true =>
   rw [g1] at c0
   have d0:(!true) = false:=rfl
   by_cases a1:0<=x.height/\x.height<=1000000
   ·have d1:=rng_t a1
    by_cases a2:0<=x.time/\x.time<=1099511627776
    ·have d2:=rng_t a2
     by_cases a3:0<=x.zeros/\x.zeros<=40
     ·have d3:=rng_t a3
      by_cases a4:0<=x.nonce/\x.nonce<=2199023255552
      ·have d4:=rng_t a4
       rw [hd_ok g1 ⟨a1,a2,a3,a4⟩]
       repeat' (first|refine Qh ?_|refine Q9 ?_|refine U9 ?_|refine Q8 Qc ?_|refine Qi ?_|refine Qw ?_|refine Qu ?_|refine Qo ?_|(apply Jr;exact rfl;(· (repeat' (first|exact Qb _ _|exact Qj _|exact Qn _);done)))|(apply J9;exact rfl;(· (first|assumption|exact rfl)))|(apply S_gf;exact rfl;exact rfl;(· (first|assumption|exact rfl)))|apply Qd|apply Q2|(apply Uj;exact Q0 rfl;(· (first|assumption|exact rfl)))|(apply Jj;exact rfl;exact Q0 rfl;(iterate 3 exact rfl);(· (first|exact ⟨rfl,rfl⟩|exact ⟨rfl,trivial⟩|assumption)))|(apply J6;(iterate 4 exact rfl);exact Q0 rfl)|apply S_not|apply Yd|(apply S_buildV Qc;exact rfl;exact rfl)|apply Qk (f:=149)|apply c0|apply Qk (f:=57)|apply in_cv|apply Qk (f:=94)|apply isZeros_cv|exact Qa|apply Q3|exact viewE_nil|apply viewE_one|exact viewE_pure Q6.out|apply view_lsV|(apply View.pure;exact Q4.out)|exact Jq.out|exact U4|(apply Ug;exact Q0 rfl)|exact Uc|apply Uq|(intro hu;cases hu;done)|exact Q0 rfl|exact Ql|(apply Qg;exact Q0 rfl)|exact Q5 rfl rfl|exact Nat.le_of_ble_eq_true rfl|exact rfl|fail)
      ·have d4:=rng_f a4
       rw [hd_range g1 (λ k=>a4 k.2.2.2)]
       repeat' (first|refine Qh ?_|refine Q9 ?_|refine J8 ?_|refine Ui ?_|refine Q8 Qc ?_|refine Qi ?_|refine Qu ?_|refine Qo ?_|(apply Jr;exact rfl;(· (repeat' (first|exact Qb _ _|exact Qj _|exact Qn _);done)))|(apply Jf;exact rfl;(· (first|assumption|exact rfl)))|(apply J9;exact rfl;(· (first|assumption|exact rfl)))|(apply S_gf;exact rfl;exact rfl;(· (first|assumption|exact rfl)))|apply Qd|apply Q2|(apply Uj;exact Q0 rfl;(· (first|assumption|exact rfl)))|(apply Jj;exact rfl;exact Q0 rfl;(iterate 3 exact rfl);(· (first|exact ⟨rfl,rfl⟩|exact ⟨rfl,trivial⟩|assumption)))|(apply J6;(iterate 4 exact rfl);exact Q0 rfl)|apply S_not|apply Yd|(apply S_buildV Qc;exact rfl;exact rfl)|apply Qk (f:=149)|apply c0|apply Qk (f:=57)|apply in_cv|apply Qk (f:=94)|apply isZeros_cv|exact Qa|apply Q3|exact viewE_nil|apply viewE_one|exact viewE_pure Q6.out|apply view_lsV|(apply View.pure;exact Q4.out)|exact Jq.out|exact U4|(apply Ug;exact Q0 rfl)|exact Uc|apply Uq|(intro hu;cases hu;done)|exact Q0 rfl|exact Ql|(apply Qg;exact Q0 rfl)|exact Q5 rfl rfl|exact Nat.le_of_ble_eq_true rfl|exact rfl|fail)
     ·have d3:=rng_f a3
      rw [hd_range g1 (λ k=>a3 k.2.2.1)]
      repeat' (first|refine Qh ?_|refine Q9 ?_|refine J8 ?_|refine Ui ?_|refine Q8 Qc ?_|refine Qi ?_|refine Qu ?_|refine Qo ?_|(apply Jr;exact rfl;(· (repeat' (first|exact Qb _ _|exact Qj _|exact Qn _);done)))|(apply Jf;exact rfl;(· (first|assumption|exact rfl)))|(apply J9;exact rfl;(· (first|assumption|exact rfl)))|(apply S_gf;exact rfl;exact rfl;(· (first|assumption|exact rfl)))|(apply S_gfT';(iterate 3 exact rfl);(· (first|assumption|exact rfl)))|apply Qd|apply Q2|(apply S_pickT;exact Q0 rfl;(· (first|assumption|exact rfl)))|(apply Uj;exact Q0 rfl;(· (first|assumption|exact rfl)))|(apply Jj;exact rfl;exact Q0 rfl;(iterate 3 exact rfl);(· (first|exact ⟨rfl,rfl⟩|exact ⟨rfl,trivial⟩|assumption)))|(apply J6;(iterate 4 exact rfl);exact Q0 rfl)|apply S_not|apply Yd|(apply S_buildV Qc;exact rfl;exact rfl)|apply Qk (f:=149)|apply c0|apply Qk (f:=57)|apply in_cv|apply Qk (f:=94)|apply isZeros_cv|exact Qa|apply Q3|exact viewE_nil|apply viewE_one|exact viewE_pure Q6.out|apply view_lsV|(apply View.pure;exact Q4.out)|exact Jq.out|exact U4|(apply Ug;exact Q0 rfl)|exact Uc|apply Uq|(intro hu;cases hu;done)|exact Q0 rfl|exact Ql|(apply Qg;exact Q0 rfl)|exact Q5 rfl rfl|exact Nat.le_of_ble_eq_true rfl|exact rfl|fail)
    ·have d2:=rng_f a2
     rw [hd_range g1 (λ k=>a2 k.2.1)]
     repeat' (first|refine Qh ?_|refine Q9 ?_|refine J8 ?_|refine Ui ?_|refine Q8 Qc ?_|refine Qi ?_|refine Qu ?_|refine Qo ?_|(apply Jr;exact rfl;(· (repeat' (first|exact Qb _ _|exact Qj _|exact Qn _);done)))|(apply Jf;exact rfl;(· (first|assumption|exact rfl)))|(apply J9;exact rfl;(· (first|assumption|exact rfl)))|(apply S_gf;exact rfl;exact rfl;(· (first|assumption|exact rfl)))|(apply S_gfT';(iterate 3 exact rfl);(· (first|assumption|exact rfl)))|apply Qd|apply Q2|(apply S_pickT;exact Q0 rfl;(· (first|assumption|exact rfl)))|(apply Uj;exact Q0 rfl;(· (first|assumption|exact rfl)))|(apply Jj;exact rfl;exact Q0 rfl;(iterate 3 exact rfl);(· (first|exact ⟨rfl,rfl⟩|exact ⟨rfl,trivial⟩|assumption)))|(apply J6;(iterate 4 exact rfl);exact Q0 rfl)|apply S_not|apply Yd|(apply S_buildV Qc;exact rfl;exact rfl)|apply Qk (f:=149)|apply c0|apply Qk (f:=57)|apply in_cv|exact Qa|apply Q3|exact viewE_nil|apply viewE_one|exact viewE_pure Q6.out|apply view_lsV|(apply View.pure;exact Q4.out)|exact Jq.out|exact U4|(apply Ug;exact Q0 rfl)|exact Uc|apply Uq|(intro hu;cases hu;done)|exact Q0 rfl|exact Ql|(apply Qg;exact Q0 rfl)|exact Q5 rfl rfl|exact Nat.le_of_ble_eq_true rfl|exact rfl|fail)
   ·have d1:=rng_f a1
    rw [hd_range g1 (λ k=>a1 k.1)]
    repeat' (first|refine Qh ?_|refine Q9 ?_|refine J8 ?_|refine Ui ?_|refine Q8 Qc ?_|refine Qi ?_|refine Qu ?_|refine Qo ?_|(apply Jr;exact rfl;(· (repeat' (first|exact Qb _ _|exact Qj _|exact Qn _);done)))|(apply Jf;exact rfl;(· (first|assumption|exact rfl)))|(apply J9;exact rfl;(· (first|assumption|exact rfl)))|(apply S_gfT';(iterate 3 exact rfl);(· (first|assumption|exact rfl)))|apply Qd|apply Q2|(apply S_pickT;exact Q0 rfl;(· (first|assumption|exact rfl)))|(apply Jj;exact rfl;exact Q0 rfl;(iterate 3 exact rfl);(· (first|exact ⟨rfl,rfl⟩|exact ⟨rfl,trivial⟩|assumption)))|(apply J6;(iterate 4 exact rfl);exact Q0 rfl)|apply S_not|apply Yd|(apply S_buildV Qc;exact rfl;exact rfl)|apply Qk (f:=149)|apply c0|apply Qk (f:=57)|apply in_cv|exact Qa|apply Q3|exact viewE_nil|apply viewE_one|exact viewE_pure Q6.out|apply view_lsV|(apply View.pure;exact Q4.out)|exact Jq.out|exact U4|(apply Ug;exact Q0 rfl)|exact Uc|apply Uq|(intro hu;cases hu;done)|exact Q0 rfl|exact Ql|(apply Qg;exact Q0 rfl)|exact Q5 rfl rfl|exact Nat.le_of_ble_eq_true rfl|exact rfl|fail)
theorem specHdFault_cv (x:Hd):CV Tryz.prog 113 [hdA x] (· = .int .i64 (Jw x)):=by
 refine J7 Qc Tryz.func113 (by kernel_rfl) rfl 35 rfl (by simp) [.tmp 2] rfl ?_
 intro w0 ok0
 have l1:=Q1 x.parent
 have l2:=Q1 x.root
 have hr:rows32 [x.parent,x.root] = (decide (x.parent.length = 32) && decide (x.root.length = 32)):=by simp [rows32]
 by_cases a1:x.parent.length = 32
 ·have b1:(!decide (((bA x.parent).length:Int) = 32)) = false:=by rw [decide_eq_true (by omega)];rfl
  by_cases a2:x.root.length = 32
  ·have b2:(!decide (((bA x.root).length:Int) = 32)) = false:=by rw [decide_eq_true (by omega)];rfl
   have g1:rows32 [x.parent,x.root] = true:=by rw [hr,decide_eq_true a1,decide_eq_true a2];rfl
   by_cases e1:0<=x.height/\x.height<=1000000
   ·have d1:=rng_t e1
    by_cases e2:0<=x.time/\x.time<=1099511627776
    ·have d2:=rng_t e2
     by_cases e3:0<=x.zeros/\x.zeros<=40
     ·have d3:=rng_t e3
      by_cases e4:0<=x.nonce/\x.nonce<=2199023255552
      ·have d4:=rng_t e4
       rw [hd_ok g1 ⟨e1,e2,e3,e4⟩]
       repeat' (first|refine Qh ?_|refine Q9 ?_|refine Q8 Qc ?_|refine Qi ?_|refine Qw ?_|refine Qu ?_|(apply Jr;exact rfl;(· (repeat' (first|exact Qb _ _|exact Qj _|exact Qn _);done)))|(apply J9;exact rfl;(· (first|assumption|exact rfl)))|(apply S_gf;exact rfl;exact rfl;(· (first|assumption|exact rfl)))|apply Qd|apply Q2|(apply Uj;exact Q0 rfl;(· (first|assumption|exact rfl)))|(apply Jj;exact rfl;exact Q0 rfl;(iterate 3 exact rfl);(· (first|exact ⟨rfl,rfl⟩|exact ⟨rfl,trivial⟩|assumption)))|(apply J6;(iterate 4 exact rfl);exact Q0 rfl)|(apply Y4;exact Q0 rfl;exact Q0 rfl)|apply S_not|(apply Qp;exact rfl;exact Q0 rfl)|apply Yd|apply Qk (f:=53)|apply l1In_cv|exact Qa|apply Q3|(apply View.pure;exact Q4.out)|exact Jq.out|exact Q0 rfl|exact Ql|(apply Qg;exact Q0 rfl)|exact Q5 rfl rfl|exact rfl|fail)
      ·have d4:=rng_f e4
       rw [hd_range g1 (λ k=>e4 k.2.2.2)]
       repeat' (first|refine Qh ?_|refine Q9 ?_|refine J8 ?_|refine Q8 Qc ?_|refine Qi ?_|refine Qw ?_|refine Qu ?_|(apply Jr;exact rfl;(· (repeat' (first|exact Qb _ _|exact Qj _|exact Qn _);done)))|(apply Jf;exact rfl;(· (first|assumption|exact rfl)))|(apply J9;exact rfl;(· (first|assumption|exact rfl)))|(apply S_gf;exact rfl;exact rfl;(· (first|assumption|exact rfl)))|apply Qd|apply Q2|(apply Uj;exact Q0 rfl;(· (first|assumption|exact rfl)))|(apply Jj;exact rfl;exact Q0 rfl;(iterate 3 exact rfl);(· (first|exact ⟨rfl,rfl⟩|exact ⟨rfl,trivial⟩|assumption)))|(apply J6;(iterate 4 exact rfl);exact Q0 rfl)|(apply Y4;exact Q0 rfl;exact Q0 rfl)|apply S_not|(apply Qp;exact rfl;exact Q0 rfl)|apply Yd|apply Qk (f:=53)|apply l1In_cv|exact Qa|apply Q3|(apply View.pure;exact Q4.out)|exact Jq.out|exact Q0 rfl|exact Ql|(apply Qg;exact Q0 rfl)|exact Q5 rfl rfl|exact rfl|fail)
     ·have d3:=rng_f e3
      rw [hd_range g1 (λ k=>e3 k.2.2.1)]
      repeat' (first|refine Qh ?_|refine Q9 ?_|refine J8 ?_|refine Q8 Qc ?_|refine Qi ?_|refine Qw ?_|refine Qu ?_|(apply Jr;exact rfl;(· (repeat' (first|exact Qb _ _|exact Qj _|exact Qn _);done)))|(apply Jf;exact rfl;(· (first|assumption|exact rfl)))|(apply J9;exact rfl;(· (first|assumption|exact rfl)))|(apply S_gf;exact rfl;exact rfl;(· (first|assumption|exact rfl)))|(apply S_gfT';(iterate 3 exact rfl);(· (first|assumption|exact rfl)))|apply Qd|apply Q2|(apply S_pickT;exact Q0 rfl;(· (first|assumption|exact rfl)))|(apply Uj;exact Q0 rfl;(· (first|assumption|exact rfl)))|(apply Jj;exact rfl;exact Q0 rfl;(iterate 3 exact rfl);(· (first|exact ⟨rfl,rfl⟩|exact ⟨rfl,trivial⟩|assumption)))|(apply J6;(iterate 4 exact rfl);exact Q0 rfl)|(apply Y4;exact Q0 rfl;exact Q0 rfl)|apply S_not|(apply Qp;exact rfl;exact Q0 rfl)|apply Yd|apply Qk (f:=53)|apply l1In_cv|exact Qa|apply Q3|(apply View.pure;exact Q4.out)|exact Jq.out|exact Q0 rfl|exact Ql|(apply Qg;exact Q0 rfl)|exact Q5 rfl rfl|exact rfl|fail)
    ·have d2:=rng_f e2
     rw [hd_range g1 (λ k=>e2 k.2.1)]
     repeat' (first|refine Qh ?_|refine Q9 ?_|refine J8 ?_|refine Q8 Qc ?_|refine Qi ?_|refine Qw ?_|refine Qu ?_|(apply Jr;exact rfl;(· (repeat' (first|exact Qb _ _|exact Qj _|exact Qn _);done)))|(apply Jf;exact rfl;(· (first|assumption|exact rfl)))|(apply J9;exact rfl;(· (first|assumption|exact rfl)))|(apply S_gf;exact rfl;exact rfl;(· (first|assumption|exact rfl)))|(apply S_gfT';(iterate 3 exact rfl);(· (first|assumption|exact rfl)))|apply Qd|apply Q2|(apply S_pickT;exact Q0 rfl;(· (first|assumption|exact rfl)))|(apply Uj;exact Q0 rfl;(· (first|assumption|exact rfl)))|(apply Jj;exact rfl;exact Q0 rfl;(iterate 3 exact rfl);(· (first|exact ⟨rfl,rfl⟩|exact ⟨rfl,trivial⟩|assumption)))|(apply J6;(iterate 4 exact rfl);exact Q0 rfl)|(apply Y4;exact Q0 rfl;exact Q0 rfl)|apply S_not|(apply Qp;exact rfl;exact Q0 rfl)|apply Yd|apply Qk (f:=53)|apply l1In_cv|exact Qa|apply Q3|(apply View.pure;exact Q4.out)|exact Jq.out|exact Q0 rfl|exact Ql|(apply Qg;exact Q0 rfl)|exact Q5 rfl rfl|exact rfl|fail)
   ·have d1:=rng_f e1
    rw [hd_range g1 (λ k=>e1 k.1)]
    repeat' (first|refine Qh ?_|refine Q9 ?_|refine J8 ?_|refine Q8 Qc ?_|refine Qi ?_|refine Qw ?_|refine Qu ?_|(apply Jr;exact rfl;(· (repeat' (first|exact Qb _ _|exact Qj _|exact Qn _);done)))|(apply Jf;exact rfl;(· (first|assumption|exact rfl)))|(apply J9;exact rfl;(· (first|assumption|exact rfl)))|(apply S_gf;exact rfl;exact rfl;(· (first|assumption|exact rfl)))|(apply S_gfT';(iterate 3 exact rfl);(· (first|assumption|exact rfl)))|apply Qd|apply Q2|(apply S_pickT;exact Q0 rfl;(· (first|assumption|exact rfl)))|(apply Uj;exact Q0 rfl;(· (first|assumption|exact rfl)))|(apply Jj;exact rfl;exact Q0 rfl;(iterate 3 exact rfl);(· (first|exact ⟨rfl,rfl⟩|exact ⟨rfl,trivial⟩|assumption)))|(apply J6;(iterate 4 exact rfl);exact Q0 rfl)|(apply Y4;exact Q0 rfl;exact Q0 rfl)|apply S_not|(apply Qp;exact rfl;exact Q0 rfl)|apply Yd|apply Qk (f:=53)|apply l1In_cv|exact Qa|apply Q3|(apply View.pure;exact Q4.out)|exact Jq.out|exact Q0 rfl|exact Ql|(apply Qg;exact Q0 rfl)|exact Q5 rfl rfl|exact rfl|fail)
  ·have b2:(!decide (((bA x.root).length:Int) = 32)) = true:=by rw [decide_eq_false (by omega)];rfl
   have g1:rows32 [x.parent,x.root] = false:=by rw [hr,decide_eq_false a2];simp
   rw [hd_form g1]
   repeat' (first|refine Qh ?_|refine Q9 ?_|refine J8 ?_|refine Q8 Qc ?_|refine Qi ?_|refine Qu ?_|(apply Jr;exact rfl;(· (repeat' (first|exact Qb _ _|exact Qj _|exact Qn _);done)))|(apply Jf;exact rfl;(· (first|assumption|exact rfl)))|(apply S_gf;exact rfl;exact rfl;(· (first|assumption|exact rfl)))|apply Qd|apply Q2|(apply Uj;exact Q0 rfl;(· (first|assumption|exact rfl)))|(apply Jj;exact rfl;exact Q0 rfl;(iterate 3 exact rfl);(· (first|exact ⟨rfl,rfl⟩|exact ⟨rfl,trivial⟩|assumption)))|(apply J6;(iterate 4 exact rfl);exact Q0 rfl)|(apply Y4;exact Q0 rfl;exact Q0 rfl)|(apply Qp;exact rfl;exact Q0 rfl)|apply Yd|exact Q0 rfl|exact Q5 rfl rfl|exact rfl|fail)
 ·have b1:(!decide (((bA x.parent).length:Int) = 32)) = true:=by rw [decide_eq_false (by omega)];rfl
  have g1:rows32 [x.parent,x.root] = false:=by rw [hr,decide_eq_false a1];simp
  rw [hd_form g1]
  repeat' (first|refine Qh ?_|refine Q9 ?_|refine J8 ?_|refine Q8 Qc ?_|refine Qi ?_|refine Qu ?_|(apply Jr;exact rfl;(· (repeat' (first|exact Qb _ _|exact Qj _|exact Qn _);done)))|(apply Jf;exact rfl;(· (first|assumption|exact rfl)))|(apply S_gfT';(iterate 3 exact rfl);(· (first|assumption|exact rfl)))|apply Qd|apply Q2|(apply S_pickT;exact Q0 rfl;(· (first|assumption|exact rfl)))|(apply Jj;exact rfl;exact Q0 rfl;(iterate 3 exact rfl);(· (first|exact ⟨rfl,rfl⟩|exact ⟨rfl,trivial⟩|assumption)))|(apply J6;(iterate 4 exact rfl);exact Q0 rfl)|(apply Y4;exact Q0 rfl;exact Q0 rfl)|(apply Qp;exact rfl;exact Q0 rfl)|apply Yd|exact Q0 rfl|exact Q5 rfl rfl|exact rfl|fail)
/-! what a head packs to,and its digest -/
abbrev hdWA (x:Hd):AV:=sl1 [byA x.parent,byA (putN x.height),byA (putN x.time),byA (putN x.zeros),byA x.root]
theorem hdWords_cv (x:Hd):CV Tryz.prog 130 [hdA x] (· = hdWA x):=by
 refine J7 Qc Tryz.func130 (by kernel_rfl) rfl 17 rfl (by simp) [.tmp 2] rfl ?_
 intro w0 ok0
 have c0:=number_cv x.height
 have c1:=number_cv x.time
 have c2:=number_cv x.zeros
 repeat' (first|refine Qh ?_|refine Q9 ?_|refine Q8 Qc ?_|(apply Ur Qc Uw;(· kernel_rfl))|refine Qi ?_|refine Qu ?_|(apply E_X<;>repeat' (first|exact J4|(apply J3;exact rfl)|(apply Qx;(iterate 6 exact rfl))|(apply J5;(iterate 4 exact rfl);(· (first|assumption|exact rfl)))|exact Qa|apply Q3|apply Jb|(apply Uu;exact rfl;(· first|exact rfl|assumption|(simp [Q1];done)|(simp [Q1];omega)|omega);exact Q6.out)|(apply U8;exact Q6.out)|apply Uh|apply Ul|(apply View.ofEq;exact Q4.out)|exact rfl))|apply Q2|(apply Jj;exact rfl;exact Q0 rfl;(iterate 3 exact rfl);(· (first|exact ⟨rfl,rfl⟩|exact ⟨rfl,trivial⟩|assumption)))|(apply J6;(iterate 4 exact rfl);exact Q0 rfl)|apply Yd|(apply S_buildV Qc;exact rfl;exact rfl)|apply Jl (f:=131)|apply c0|apply c1|apply c2|exact Qe.out|exact U4|(apply Ug;exact Q0 rfl)|exact Uc|apply Uq|(intro hu;cases hu;done)|exact Q0 rfl|exact Ql|(apply Qg;exact Q0 rfl)|exact Q5 rfl rfl|exact Nat.le_of_ble_eq_true rfl|exact rfl|fail)
theorem l5Front_cv (x:Hd):CV Tryz.prog 169 [hdA x] (· = hdWA x):=by
 refine J7 Qc Tryz.func169 (by kernel_rfl) rfl 17 rfl (by simp) [.tmp 2] rfl ?_
 intro w0 ok0
 have c0:=l1Put_cv x.height
 have c1:=l1Put_cv x.time
 have c2:=l1Put_cv x.zeros
 repeat' (first|refine Qh ?_|refine Q9 ?_|refine Q8 Qc ?_|(apply Ur Qc Uw;(· kernel_rfl))|refine Qi ?_|refine Qu ?_|(apply E_X<;>repeat' (first|exact J4|(apply J3;exact rfl)|(apply Qx;(iterate 6 exact rfl))|(apply J5;(iterate 4 exact rfl);(· (first|assumption|exact rfl)))|exact Qa|apply Q3|apply Jb|(apply Uu;exact rfl;(· first|exact rfl|assumption|(simp [Q1];done)|(simp [Q1];omega)|omega);exact Q6.out)|(apply U8;exact Q6.out)|apply Uh|apply Ul|(apply View.ofEq;exact Q4.out)|exact rfl))|apply Q2|(apply Jj;exact rfl;exact Q0 rfl;(iterate 3 exact rfl);(· (first|exact ⟨rfl,rfl⟩|exact ⟨rfl,trivial⟩|assumption)))|(apply J6;(iterate 4 exact rfl);exact Q0 rfl)|apply Yd|(apply S_buildV Qc;exact rfl;exact rfl)|apply Jl (f:=172)|apply c0|apply c1|apply c2|exact Qe.out|exact U4|(apply Ug;exact Q0 rfl)|exact Uc|apply Uq|(intro hu;cases hu;done)|exact Q0 rfl|exact Ql|(apply Qg;exact Q0 rfl)|exact Q5 rfl rfl|exact Nat.le_of_ble_eq_true rfl|exact rfl|fail)
theorem hdDigest_cv (x:Hd) (h:Jw x = 0):CV Tryz.prog 71 [hdA x] (· = sl1 (bA (hdD x))):=by
 refine J7 Qc Tryz.func71 (by kernel_rfl) rfl 11 rfl (by simp) [.tmp 2] rfl ?_
 intro w0 ok0
 obtain ⟨h1,h2,h3⟩:=hdWs_pack h
 have c0:=hdWords_cv x
 have c1:=pack_cv (hdWs x) (by omega) (λ w hw=>by have:=h2 w hw;omega) (by omega)
 have c2:CV Tryz.prog 129 [hdWA x] (· = sl1 (bA (Uk (hdWs x)))):=c1
 have c3:=number_cv x.nonce
 have e:[Uk (hdWs x),putN x.nonce].flatten = Uk (hdWs x)++putN x.nonce:=by simp
 have c4:CV Tryz.prog 128 [sl1 ([Uk (hdWs x),putN x.nonce].map byA)] (· = sl1 (bA (hdD x))):=CR.byVal (digest_cr [Uk (hdWs x),putN x.nonce] (by rw [e,List.length_append,putN_length];omega) (by simp) 0) (by rw [Q1,sha_length]) (Yi _) |>.mono (λ y hy=>by rw [hy,e];rfl)
 clear e c1
 generalize Uk (hdWs x) = P at *
 generalize putN x.nonce = Q at *
 have c5:CV Tryz.prog 128 [.ls 1 false true [byA P,byA Q]] (· = sl1 (bA (hdD x))):=c4.args rfl (loose1 (loose_ls _ _ _ _))
 repeat' (first|refine Qh ?_|refine Q9 ?_|refine Q8 Qc ?_|(apply T_drawM (id:=1) 5 Qc Uw;exact rfl;exact rfl;(· kernel_rfl);exact Nat.le_of_ble_eq_true rfl)|refine Qi ?_|refine Qu ?_|(apply E_X<;>repeat' (first|exact J4|(apply J3;exact rfl)|(apply Qx;(iterate 6 exact rfl))|(apply J5;(iterate 4 exact rfl);(· (first|assumption|exact rfl)))|exact Qa|apply Q3|apply Jb|(apply Uu;exact rfl;(· first|exact rfl|assumption|(simp [Q1];done)|(simp [Q1];omega)|omega);exact Q6.out)|(apply U8;exact Q6.out)|apply Uh|apply Ul|(apply View.ofEq;exact Q4.out)|exact rfl))|apply Q2|(apply Jj;exact rfl;exact Q0 rfl;(iterate 3 exact rfl);(· (first|exact ⟨rfl,rfl⟩|exact ⟨rfl,trivial⟩|assumption)))|(apply Yc;exact rfl;exact Q0 rfl;(iterate 6 exact rfl))|(apply J6;(iterate 4 exact rfl);exact Q0 rfl)|apply Yd|(apply S_buildV Qc;exact rfl;exact rfl)|apply Jl (f:=130)|apply c0|apply Jl (f:=129)|apply c2|apply Jl (f:=131)|apply c3|apply Jl (f:=128)|apply c5|exact Qe.out|exact U4|(apply Ug;exact Q0 rfl)|exact Uc|apply Uq|(intro hu;cases hu;done)|exact Q0 rfl|exact Ql|(apply Qg;exact Q0 rfl)|exact Q5 rfl rfl|exact Nat.le_of_ble_eq_true rfl|exact rfl|fail)
theorem l5Digest_cv (x:Hd) (h:Jw x = 0):CV Tryz.prog 124 [hdA x] (· = sl1 (bA (hdD x))):=by
 refine J7 Qc Tryz.func124 (by kernel_rfl) rfl 11 rfl (by simp) [.tmp 2] rfl ?_
 intro w0 ok0
 obtain ⟨h1,h2,h3⟩:=hdWs_pack h
 have c0:=l5Front_cv x
 have c1:∀ N,CR Tryz.prog 168 [hdWA x] [] N (Is (.sl N 0 (Uk (hdWs x)).length (Uk (hdWs x)).length) [(N,some ⟨bA (Uk (hdWs x)),1,true,false⟩)] (N + 1)):=λ N=>l1Pack_cr (hdWs x) (by omega) (by omega) N
 have c3:=l1Put_cv x.nonce
 have c4:CV Tryz.prog 171 [sl1 (bA (Uk (hdWs x)++putN x.nonce))] (· = sl1 (bA (hdD x))):=CR.byVal (specDigest_cr (Uk (hdWs x)++putN x.nonce) (by rw [List.length_append,putN_length];omega) 0) (by rw [Q1,hdD_length]) (Yi _)
 have hv:bA (Uk (hdWs x))++bA (putN x.nonce) = bA (Uk (hdWs x)++putN x.nonce):=by rw [bA_app]
 rw [<-hv] at c4
 clear hv
 have hp:=Q1 (Uk (hdWs x))
 have hq:=Q1 (putN x.nonce)
 have hq2:=putN_length x.nonce
 generalize Uk (hdWs x) = P at *
 generalize putN x.nonce = Q at *
 repeat' (first|refine Qh ?_|refine Q9 ?_|refine Q8 Qc ?_|(apply T_drawQ (id:=1) 5 [2] Qc Uw;(iterate 3 exact rfl);(· kernel_rfl);(· kernel_rfl);exact Nat.le_of_ble_eq_true rfl)|refine Qi ?_|refine Qu ?_|(apply E_X<;>repeat' (first|exact J4|(apply J3;exact rfl)|(apply Qx;(iterate 6 exact rfl))|(apply J5;(iterate 4 exact rfl);(· (first|assumption|exact rfl)))|exact Qa|apply Q3|apply Jb|(apply Uu;exact rfl;(· first|exact rfl|assumption|(simp [Q1];done)|(simp [Q1];omega)|omega);exact Q6.out)|(apply U8;exact Q6.out)|apply Uh|apply Ul|(apply View.ofEq;exact Q4.out)|exact rfl))|apply Q2|(apply Jj;exact rfl;exact Q0 rfl;(iterate 3 exact rfl);(· (first|exact ⟨rfl,rfl⟩|exact ⟨rfl,trivial⟩|assumption)))|(apply Yc;exact rfl;exact Q0 rfl;(iterate 6 exact rfl))|(apply J6;(iterate 4 exact rfl);exact Q0 rfl)|apply Yd|(apply M_appB;exact rfl;exact rfl;exact Q0 rfl)|refine L_nil ?_|apply L_callI (f:=168)|apply Jl (f:=169)|apply c0|apply S_callW (f:=172)|apply c3|apply S_callW (f:=171)|apply c4|apply c1|exact Qa|apply Q3|exact viewE_nil|apply viewE_one|exact viewE_pure Q6.out|apply view_lsV|(apply View.pure;exact Q4.out)|(apply view_slM;exact rfl;(· (apply mlen;first|exact rfl|assumption|exact Nat.le_of_ble_eq_true rfl|omega|(simp [Q1];done)|(simp [Q1];omega)));exact Q6.out)|exact OwnC.out|exact ownB_nil|(apply ownB_boxM;(· (apply mlen;first|exact rfl|assumption|exact Nat.le_of_ble_eq_true rfl|omega|(simp [Q1];done)|(simp [Q1];omega)));exact OwnEC.out)|exact Qe.out|(apply mlen;first|exact rfl|assumption|exact Nat.le_of_ble_eq_true rfl|omega|(simp [Q1];done)|(simp [Q1];omega))|(apply msz;first|assumption|exact Nat.le_of_ble_eq_true rfl|(dsimp only;simp only [List.length_append,List.length_map,List.length_cons,List.length_nil,Q1,List.length_take,List.length_drop,List.length_replicate] at *;omega)|(dsimp only;omega))|(apply mnorm;first|with_reducible exact app_nil0 _|exact app_norm _ _|exact rfl)|exact Src.ls rfl rfl|(dsimp only;omega)|exact Q0 rfl|exact Ql|(apply Qg;exact Q0 rfl)|exact Q5 rfl rfl|exact rfl|fail)
theorem specHdDigest_cv (x:Hd) (h:Jw x = 0):CV Tryz.prog 110 [hdA x] (· = sl1 (bA (hdD x))):=by
 refine J7 Qc Tryz.func110 (by kernel_rfl) rfl 8 rfl (by simp) [.tmp 2] rfl ?_
 intro w0 ok0
 have k0:=specHdFault_cv x
 rw [h] at k0
 have d0:(!decide ((0:Int) = 0)) = false:=rfl
 have c0:=l5Digest_cv x h
 repeat' (first|refine Qh ?_|refine Q9 ?_|refine Q8 Qc ?_|refine Qi ?_|refine Qw ?_|refine Qu ?_|(apply E_X<;>repeat' (first|exact J4|(apply J3;exact rfl)|(apply Qx;(iterate 6 exact rfl))|(apply J5;(iterate 4 exact rfl);(· (first|assumption|exact rfl)))|exact Qa|apply Q3|apply Jb|(apply Uu;exact rfl;(· first|exact rfl|assumption|(simp [Q1];done)|(simp [Q1];omega)|omega);exact Q6.out)|(apply U8;exact Q6.out)|apply Uh|apply Ul|(apply View.ofEq;exact Q4.out)|exact rfl))|(apply J9;exact rfl;(· (first|assumption|exact rfl)))|apply Q2|(apply Yc;exact rfl;exact Q0 rfl;(iterate 6 exact rfl))|(apply Y4;exact Q0 rfl;exact Q0 rfl)|apply Yd|apply Qk (f:=113)|apply k0|apply Jl (f:=124)|apply c0|exact Qa|apply Q3|(apply View.pure;exact Q4.out)|exact Jq.out|exact Qe.out|exact Q0 rfl|exact Ql|(apply Qg;exact Q0 rfl)|exact Q5 rfl rfl|exact rfl|fail)
end Go.Proofs.YtaolmfgpebncjaaGreat
