/- Words packed. -/
import Derived.Test.YtaolmfgpebncjaaGreatZa
set_option maxRecDepth 100000
set_option maxHeartbeats 3200000
set_option linter.unusedSimpArgs false
set_option linter.unusedVariables false
namespace Go.Proofs.YtaolmfgpebncjaaGreat
open Go.Av
attribute [local irreducible] T thenQ Uv Y0 Uz WX retV retR Gt Gts GtsP Qs CV CR Av.Pure
attribute [local irreducible] sha
theorem number_cv (n:Int):CV Tryz.prog 131 [.int .i64 n] (· = sl1 (bA (putN n))):=CR.byVal (number_cr n 0) rfl (Yi _)
theorem l1Put_cv (n:Int):CV Tryz.prog 172 [.int .i64 n] (· = sl1 (bA (putN n))):=CR.byVal (l1Put_cr n 0) rfl (Yi _)
def Uk (ws:List (List UInt8)):List UInt8:=(ws.map λ w=>byteN w.length::w).flatten
theorem packL_take (ws:List (List UInt8)) {k:Nat} (h:k < ws.length):Uk (ws.take (k + 1)) = Uk (ws.take k)++(byteN (ws.getD k []).length::ws.getD k []):=by
 have e:ws.take (k + 1) = ws.take k++[ws.getD k []]:=by rw [List.take_add_one,List.getElem?_eq_getElem h,List.getD_eq_getElem?_getD,List.getElem?_eq_getElem h];rfl
 rw [e]
 simp [Uk]
theorem packL_le (ws:List (List UInt8)) (k:Nat):(Uk (ws.take k)).length<=(Uk ws).length:=by
 have h:ws = ws.take k++ws.drop k:=(List.take_append_drop k ws).symm
 have h2:Uk ws = Uk (ws.take k)++Uk (ws.drop k):=by
  conv=>lhs;rw [h]
  simp only [Uk,List.map_append,List.flatten_append]
 rw [h2,List.length_append]
 omega
theorem packed_cr0 (ws:List (List UInt8)) (h1:ws.length<=60) (h2:∀ w∈ws,w.length<=200) (h3:(Uk ws).length<=4000):CR Tryz.prog 175 [Y2 ws] [] 0 (Is (.tup [.sl 0 0 (Uk ws).length (Uk ws).length,.bool true]) [(0,some ⟨bA (Uk ws),1,true,false⟩)] (0 + 1)):=by
 refine Us Qc Tryz.func175 (by kernel_rfl) rfl 39 rfl (by simp) [.tmp 2,.tmp 3] rfl ?_
 intro w0 ok0 wr φ0
 have hl:(ws.map byA).length = ws.length:=by simp
 have d0:decide ((60:Int) < ((ws.map byA).length:Int)) = false:=decide_eq_false (by omega)
 repeat' (first|refine Qh ?_|refine Q9 ?_|refine Q8 Qc ?_|refine Qi ?_|refine Qw ?_|refine Qo ?_|(apply J9;exact rfl;(· (first|assumption|exact rfl)))|apply Qd|apply Q2|apply S_gtr|(apply Qp;exact rfl;exact Q0 rfl)|(apply S_buildL Qc;(iterate 3 exact rfl))|(dsimp only;omega)|exact U4|exact Uc|exact Q0 rfl|exact rfl|fail)
 refine Js (α:=Nat) (λ k=>⟨[(4,.sl 0 0 (Uk (ws.take k)).length (Uk (ws.take k)).length),(11,Y2 ws),(12,.int .i64 (ws.map byA).length),(13,.int .i64 k)],[(0,some ⟨bA (Uk (ws.take k)),1,true,false⟩)],1⟩)
  (λ k=>ws.length - k) (λ k=>k<=ws.length) 0 ((Jp (by repeat' (first|exact Qy|refine Qr rfl ?_)) (by repeat' (first|exact Qz|refine Qt (by first|rfl|exact congrArg (λ l=>some (Box.mk l _ _ _)) hset) ?_)) (Nat.le_refl _))).sub (by omega) ?_
 intro k hk
 have hbl:=Q1 (Uk (ws.take k))
 by_cases hkl:k < ws.length
 ·have d1:decide ((k:Int) < ((ws.map byA).length:Int)) = true:=decide_eq_true (by omega)
  have hget:=Uy byA ws [] (k:=k) (by omega)
  have hw2:=h2 _ (getD_mem ws [] hkl)
  have ht:=packL_take ws hkl
  have hle:=packL_le ws (k + 1)
  have hlen:=congrArg List.length ht
  simp only [List.length_append,List.length_cons] at hlen
  generalize ws.getD k [] = w at *
  have hwl:=Q1 w
  have d2:decide ((200:Int) < ((bA w).length:Int)) = false:=decide_eq_false (by omega)
  have w1:IntKind.wrap .i64 (((Uk (ws.take k)).length:Int) + 1) = (((Uk (ws.take k)).length + 1:Nat):Int):=by rw [wrap_i64 (by omega) (by omega)];omega
  have w2:IntKind.wrap .i64 ((((Uk (ws.take k)).length + 1:Nat):Int) + ((bA w).length:Int)) = ((Uk (ws.take (k + 1))).length:Int):=by rw [wrap_i64 (by omega) (by omega)];omega
  have d3:decide ((4000:Int) < ((Uk (ws.take (k + 1))).length:Int)) = false:=decide_eq_false (by omega)
  have w3:IntKind.wrap .u8 ((bA w).length:Int) = ((byteN w.length).toNat:Int):=by rw [hwl];exact byteN_wrap _
  have hset:(bA (Uk (ws.take k))++[.int .u8 ((byteN w.length).toNat:Int)])++bA w = bA (Uk (ws.take (k + 1))):=by rw [ht];simp [bA]
  have hw:IntKind.wrap .i64 ((k:Int) + 1) = ((k + 1:Nat):Int):=by rw [wrap_i64 (by omega) (by omega)];omega
  repeat' (first|refine Qh ?_|refine Q9 ?_|refine U9 ?_|refine Q8 Qc ?_|refine Qi ?_|refine Qw ?_|refine Qo ?_|(apply Jf;exact rfl;(· (first|assumption|exact rfl)))|(apply J9;exact rfl;(· (first|assumption|exact rfl)))|(apply S_gf;exact rfl;exact rfl;(· (first|assumption|exact rfl)))|apply Qd|apply Q2|(apply Uj;exact Q0 rfl;(· (first|assumption|exact rfl)))|(apply Ue;exact rfl;exact Q0 rfl;exact rfl;(· (first|exact ⟨rfl,rfl⟩|exact ⟨rfl,trivial⟩|assumption)))|apply Jd|apply S_gtr|apply Y7|(apply S_conv;exact rfl;exact rfl;exact Q0 rfl)|(apply Qp;exact rfl;exact Q0 rfl)|(apply S_len_sl;exact rfl;exact Q0 rfl)|(apply Jk;exact rfl;exact rfl;exact Q0 rfl;exact Q0 rfl)|(apply M_appB;exact rfl;exact rfl;exact Q0 rfl)|(apply S_buildV Qc;exact rfl;exact rfl)|(apply mlen;first|exact rfl|assumption|exact Nat.le_of_ble_eq_true rfl|omega|(simp [Q1];done)|(simp [Q1];omega))|(apply msz;first|assumption|exact Nat.le_of_ble_eq_true rfl|(dsimp only;simp only [List.length_append,List.length_map,List.length_cons,List.length_nil,Q1,List.length_take,List.length_drop,List.length_replicate] at *;omega)|(dsimp only;omega))|(apply mnorm;first|with_reducible exact app_nil0 _|exact app_norm _ _|exact rfl)|exact Src.ls rfl rfl|(dsimp only;omega)|exact U4|(apply Ug;exact Q0 rfl)|exact Uc|apply Uq|(intro hu;cases hu;done)|exact Q0 rfl|exact Q5 rfl rfl|assumption|(refine ⟨?_,?_⟩<;>omega)|omega|exact rfl|fail)
  exact U7 (k + 1) (sub_names [(0,2)] (k0:=0) rfl (by rfl) (by repeat' (first|exact pullE_nil|(apply Yl;exact rfl)|exact Ren.sl _ _ _ _|(apply Ub;(· first|exact rfl|omega);(· first|exact rfl|assumption|(simp [Q1];done)|(simp [Q1];omega));(· first|exact rfl|assumption|(simp [Q1];done)|(simp [Q1];omega)))|exact Ren.ptr _ _ _|(apply Ren.pure;(first|exact Q4.out|exact Qe.out|assumption))|exact Qf|apply Q7|apply Qm|apply Qv)) (by repeat' (first|exact Ji|(apply Yj;(· first|exact rfl|exact congrArg (λ l=>some (Box.mk l _ _ _)) hset);(· (exact Q6.out)))|(apply Jh;exact rfl)|exact Qf|apply Q7|exact Ren.sl _ _ _ _|exact Ren.ptr _ _ _|(apply Ren.pure;(first|exact Q4.out|exact Qe.out|assumption))|apply Qm)) (by repeat' (first|exact lowE_nil|apply Ye|exact Low.sl _ _ _ _ (by decide)|exact Low.ptr _ _ _ (by decide)|(apply Low.pure;(first|exact Q4.out|exact Qe.out|assumption))|exact J0|apply Qq|apply U3|apply U2)) (by repeat' (first|exact Jc|apply J1|(apply Uf.low;(exact Q6.out))|apply Ju|exact Jv|exact J0|apply Qq|exact Low.sl _ _ _ _ (by decide)|exact Low.ptr _ _ _ (by decide)|(apply Low.pure;(first|exact Q4.out|exact Qe.out|assumption))))) (by omega) (by omega)
 ·have d1:decide ((k:Int) < ((ws.map byA).length:Int)) = false:=decide_eq_false (by omega)
  obtain rfl:k = ws.length:=by omega
  rw [List.take_length]
  repeat' (first|refine Qh ?_|refine Q9 ?_|refine Ua ?_|refine Jt ?_|refine Jo ?_|refine Q8 Qc ?_|refine Qi ?_|refine Qu ?_|refine Un ?_|(apply J9;exact rfl;(· (first|assumption|exact rfl)))|apply Qd|apply Q2|apply Jd|exact Q0 rfl|exact rfl|fail)
  (apply E_U0 [(0,0)]<;>repeat' (first|exact J4|(apply J3;exact rfl)|(apply Qx;(iterate 6 exact rfl))|(apply J5;(iterate 4 exact rfl);(· (first|assumption|exact rfl)))|exact Ren.sl _ _ _ _|(apply Ub;(· first|exact rfl|omega);(· first|exact rfl|assumption|(simp [Q1];done)|(simp [Q1];omega));(· first|exact rfl|assumption|(simp [Q1];done)|(simp [Q1];omega)))|exact Ren.ptr _ _ _|exact Qf|apply Q7|(apply Ren.pure;exact Q4.out)|apply Qm|apply Qv|exact Low.sl _ _ _ _ (by decide)|exact Low.ptr _ _ _ (by decide)|exact J0|apply Qq|(apply Low.pure;exact Q4.out)|apply U3|apply U2|exact Ji|(apply Jx;exact rfl;(· first|exact rfl|assumption|(simp [bA];done));exact Q6.out)|(apply Jh;exact rfl)|exact Jc|apply J1|(apply Uf.low;exact Q6.out)|apply Ju|exact Jv|exact rfl))
theorem packed_cr (ws:List (List UInt8)) (h1:ws.length<=60) (h2:∀ w∈ws,w.length<=200) (h3:(Uk ws).length<=4000) (N:Nat):CR Tryz.prog 175 [Y2 ws] [] N (Is (.tup [.sl N 0 (Uk ws).length (Uk ws).length,.bool true]) [(N,some ⟨bA (Uk ws),1,true,false⟩)] (N + 1)) :=
 CR.allN (packed_cr0 ws h1 h2 h3) N (by first|exact Q4.out|exact Qe.out|assumption) (by repeat' (first|exact Ren.sl _ _ _ _|exact Ren.ptr _ _ _|exact Qf|apply Q7|(apply Ren.pure;(first|exact Q4.out|exact Qe.out|assumption))|apply Qm|apply Qv)) (by repeat' (first|exact Jn|(apply Ja;exact rfl;(· (exact Q6.out)))|(apply Jm;exact rfl)|exact Qf|apply Q7|exact Ren.sl _ _ _ _|exact Ren.ptr _ _ _|(apply Ren.pure;(first|exact Q4.out|exact Qe.out|assumption))|apply Qm))
theorem pack_cr0 (ws:List (List UInt8)) (h1:ws.length<=60) (h2:∀ w∈ws,w.length<=200) (h3:(Uk ws).length<=4000):CR Tryz.prog 129 [Y2 ws] [] 0 (Is (.sl 0 0 (Uk ws).length (Uk ws).length) [(0,some ⟨bA (Uk ws),1,true,false⟩)] (0 + 1)):=by
 refine Us Qc Tryz.func129 (by kernel_rfl) rfl 11 rfl (by simp) [.tmp 2] rfl ?_
 intro w0 ok0 wr φ0
 have c0:=λ N=>packed_cr ws h1 h2 h3 N
 repeat' (first|refine Qh ?_|refine Q9 ?_|refine Q8 Qc ?_|refine Qi ?_|refine Qu ?_|apply Qd|apply Q2|apply S_extract|apply S_callI (f:=175)|apply c0|exact Qa|apply Q3|(apply View.pure;exact Q4.out)|exact OwnC.out|exact ownB_nil|(apply ownB_boxM;(· (apply mlen;first|exact rfl|assumption|exact Nat.le_of_ble_eq_true rfl|omega|(simp [Q1];done)|(simp [Q1];omega)));exact OwnEC.out)|exact Q0 rfl|exact Ql|(apply Qg;exact Q0 rfl)|exact rfl|fail)
 (apply E_U0 [(0,0)]<;>repeat' (first|exact J4|(apply J3;exact rfl)|(apply Qx;(iterate 6 exact rfl))|(apply J5;(iterate 4 exact rfl);(· (first|assumption|exact rfl)))|exact Ren.sl _ _ _ _|(apply Ub;(· first|exact rfl|omega);(· first|exact rfl|assumption|(simp [Q1];done)|(simp [Q1];omega));(· first|exact rfl|assumption|(simp [Q1];done)|(simp [Q1];omega)))|exact Ren.ptr _ _ _|exact Qf|apply Q7|(apply Ren.pure;exact Q4.out)|apply Qm|apply Qv|exact Low.sl _ _ _ _ (by decide)|exact Low.ptr _ _ _ (by decide)|exact J0|apply Qq|(apply Low.pure;exact Q4.out)|apply U3|apply U2|exact Ji|(apply Jx;exact rfl;(· first|exact rfl|assumption|(simp [bA];done));exact Q6.out)|(apply Jh;exact rfl)|exact Jc|apply J1|(apply Uf.low;exact Q6.out)|apply Ju|exact Jv|exact rfl))
theorem pack_cr (ws:List (List UInt8)) (h1:ws.length<=60) (h2:∀ w∈ws,w.length<=200) (h3:(Uk ws).length<=4000) (N:Nat):CR Tryz.prog 129 [Y2 ws] [] N (Is (.sl N 0 (Uk ws).length (Uk ws).length) [(N,some ⟨bA (Uk ws),1,true,false⟩)] (N + 1)) :=
 CR.allN (pack_cr0 ws h1 h2 h3) N (by first|exact Q4.out|exact Qe.out|assumption) (by repeat' (first|exact Ren.sl _ _ _ _|exact Ren.ptr _ _ _|exact Qf|apply Q7|(apply Ren.pure;(first|exact Q4.out|exact Qe.out|assumption))|apply Qm|apply Qv)) (by repeat' (first|exact Jn|(apply Ja;exact rfl;(· (exact Q6.out)))|(apply Jm;exact rfl)|exact Qf|apply Q7|exact Ren.sl _ _ _ _|exact Ren.ptr _ _ _|(apply Ren.pure;(first|exact Q4.out|exact Qe.out|assumption))|apply Qm))
theorem pack_cv (ws:List (List UInt8)) (h1:ws.length<=60) (h2:∀ w∈ws,w.length<=200) (h3:(Uk ws).length<=4000):CV Tryz.prog 129 [Y2 ws] (· = sl1 (bA (Uk ws))) :=
 CR.byVal (pack_cr ws h1 h2 h3 0) (Q1 _).symm (Yi _)
theorem l1Pack_cr0 (ws:List (List UInt8)) (h1:ws.length<=1000000) (h3:(Uk ws).length<=100000000):CR Tryz.prog 168 [Y2 ws] [] 0 (Is (.sl 0 0 (Uk ws).length (Uk ws).length) [(0,some ⟨bA (Uk ws),1,true,false⟩)] (0 + 1)):=by
 refine Us Qc Tryz.func168 (by kernel_rfl) rfl 27 rfl (by simp) [.tmp 2] rfl ?_
 intro w0 ok0 wr φ0
 have hl:(ws.map byA).length = ws.length:=by simp
 repeat' (first|refine Qh ?_|refine Q9 ?_|refine Q8 Qc ?_|refine Qi ?_|refine Qo ?_|apply Q2|(apply S_buildL Qc;(iterate 3 exact rfl))|(dsimp only;omega)|exact U4|exact Uc|exact Q0 rfl|exact rfl|fail)
 refine Js (α:=Nat) (λ k=>⟨[(0,Y2 ws),(3,.sl 0 0 (Uk (ws.take k)).length (Uk (ws.take k)).length),(4,.int .i64 k)],[(0,some ⟨bA (Uk (ws.take k)),1,true,false⟩)],1⟩)
  (λ k=>ws.length - k) (λ k=>k<=ws.length) 0 ((Jp (by repeat' (first|exact Qy|refine Qr rfl ?_)) (by repeat' (first|exact Qz|refine Qt (by first|rfl|exact congrArg (λ l=>some (Box.mk l _ _ _)) hset) ?_)) (Nat.le_refl _))).sub (by omega) ?_
 intro k hk
 have hbl:=Q1 (Uk (ws.take k))
 by_cases hkl:k < ws.length
 ·have d1:decide ((k:Int) < ((ws.map byA).length:Int)) = true:=decide_eq_true (by omega)
  have hget:=Uy byA ws [] (k:=k) (by omega)
  have ht:=packL_take ws hkl
  have hle:=packL_le ws (k + 1)
  have hlen:=congrArg List.length ht
  simp only [List.length_append,List.length_cons] at hlen
  generalize ws.getD k [] = w at *
  have hwl:=Q1 w
  have w3:IntKind.wrap .u8 ((bA w).length:Int) = ((byteN w.length).toNat:Int):=by rw [hwl];exact byteN_wrap _
  have hset:(bA (Uk (ws.take k))++[.int .u8 ((byteN w.length).toNat:Int)])++bA w = bA (Uk (ws.take (k + 1))):=by rw [ht];simp [bA]
  have hw:IntKind.wrap .i64 ((k:Int) + 1) = ((k + 1:Nat):Int):=by rw [wrap_i64 (by omega) (by omega)];omega
  repeat' (first|refine Qh ?_|refine Q9 ?_|refine U9 ?_|refine Q8 Qc ?_|(apply T_drawF (i:=0) (id:=5) 13 [8] Qc Uw;(iterate 3 exact rfl);(· kernel_rfl);(· kernel_rfl);exact Nat.le_of_ble_eq_true rfl)|refine Qi ?_|refine Qw ?_|refine Qo ?_|(apply Jf;exact rfl;(· (first|assumption|exact rfl)))|apply Qd|apply Q2|(apply Ue;exact rfl;exact Q0 rfl;exact rfl;(· (first|exact ⟨rfl,rfl⟩|exact ⟨rfl,trivial⟩|assumption)))|apply Jd|apply Y7|(apply S_conv;exact rfl;exact rfl;exact Q0 rfl)|(apply Qp;exact rfl;exact Q0 rfl)|(apply Jk;exact rfl;exact rfl;exact Q0 rfl;exact Q0 rfl)|(apply M_appB;exact rfl;exact rfl;exact Q0 rfl)|(apply S_buildV Qc;exact rfl;exact rfl)|(apply L_appB Qc;exact rfl;exact rfl;exact Q0 rfl)|(apply mlen;first|exact rfl|assumption|exact Nat.le_of_ble_eq_true rfl|omega|(simp [Q1];done)|(simp [Q1];omega))|(apply msz;first|assumption|exact Nat.le_of_ble_eq_true rfl|(dsimp only;simp only [List.length_append,List.length_map,List.length_cons,List.length_nil,Q1,List.length_take,List.length_drop,List.length_replicate] at *;omega)|(dsimp only;omega))|(apply mnorm;first|with_reducible exact app_nil0 _|exact app_norm _ _|exact rfl)|exact Src.ls rfl rfl|(dsimp only;omega)|exact U4|(apply Ug;exact Q0 rfl)|exact Uc|apply Uq|(intro hu;cases hu;done)|exact Q0 rfl|exact Q5 rfl rfl|assumption|(refine ⟨?_,?_⟩<;>omega)|omega|exact rfl|fail)
  exact U7 (k + 1) (sub_names [(0,2)] (k0:=0) rfl (by rfl) (by repeat' (first|exact pullE_nil|(apply Yl;exact rfl)|exact Ren.sl _ _ _ _|(apply Ub;(· first|exact rfl|omega);(· first|exact rfl|assumption|(simp [Q1];done)|(simp [Q1];omega));(· first|exact rfl|assumption|(simp [Q1];done)|(simp [Q1];omega)))|exact Ren.ptr _ _ _|(apply Ren.pure;(first|exact Q4.out|exact Qe.out|assumption))|exact Qf|apply Q7|apply Qm|apply Qv)) (by repeat' (first|exact Ji|(apply Yj;(· first|exact rfl|exact congrArg (λ l=>some (Box.mk l _ _ _)) hset);(· (exact Q6.out)))|(apply Jh;exact rfl)|exact Qf|apply Q7|exact Ren.sl _ _ _ _|exact Ren.ptr _ _ _|(apply Ren.pure;(first|exact Q4.out|exact Qe.out|assumption))|apply Qm)) (by repeat' (first|exact lowE_nil|apply Ye|exact Low.sl _ _ _ _ (by decide)|exact Low.ptr _ _ _ (by decide)|(apply Low.pure;(first|exact Q4.out|exact Qe.out|assumption))|exact J0|apply Qq|apply U3|apply U2)) (by repeat' (first|exact Jc|apply J1|(apply Uf.low;(exact Q6.out))|apply Ju|exact Jv|exact J0|apply Qq|exact Low.sl _ _ _ _ (by decide)|exact Low.ptr _ _ _ (by decide)|(apply Low.pure;(first|exact Q4.out|exact Qe.out|assumption))))) (by omega) (by omega)
 ·have d1:decide ((k:Int) < ((ws.map byA).length:Int)) = false:=decide_eq_false (by omega)
  obtain rfl:k = ws.length:=by omega
  rw [List.take_length]
  repeat' (first|refine Qh ?_|refine Q9 ?_|refine Ua ?_|refine Jt ?_|refine Jo ?_|refine Q8 Qc ?_|refine Qi ?_|refine Qu ?_|refine Un ?_|(apply J9;exact rfl;(· (first|assumption|exact rfl)))|apply Qd|apply Q2|apply Jd|(apply Qp;exact rfl;exact Q0 rfl)|exact Q0 rfl|exact rfl|fail)
  (apply E_U0 [(0,0)]<;>repeat' (first|exact J4|(apply J3;exact rfl)|(apply Qx;(iterate 6 exact rfl))|(apply J5;(iterate 4 exact rfl);(· (first|assumption|exact rfl)))|exact Ren.sl _ _ _ _|(apply Ub;(· first|exact rfl|omega);(· first|exact rfl|assumption|(simp [Q1];done)|(simp [Q1];omega));(· first|exact rfl|assumption|(simp [Q1];done)|(simp [Q1];omega)))|exact Ren.ptr _ _ _|exact Qf|apply Q7|(apply Ren.pure;exact Q4.out)|apply Qm|apply Qv|exact Low.sl _ _ _ _ (by decide)|exact Low.ptr _ _ _ (by decide)|exact J0|apply Qq|(apply Low.pure;exact Q4.out)|apply U3|apply U2|exact Ji|(apply Jx;exact rfl;(· first|exact rfl|assumption|(simp [bA];done));exact Q6.out)|(apply Jh;exact rfl)|exact Jc|apply J1|(apply Uf.low;exact Q6.out)|apply Ju|exact Jv|exact rfl))
theorem l1Pack_cr (ws:List (List UInt8)) (h1:ws.length<=1000000) (h3:(Uk ws).length<=100000000) (N:Nat):CR Tryz.prog 168 [Y2 ws] [] N (Is (.sl N 0 (Uk ws).length (Uk ws).length) [(N,some ⟨bA (Uk ws),1,true,false⟩)] (N + 1)) :=
 CR.allN (l1Pack_cr0 ws h1 h3) N (by first|exact Q4.out|exact Qe.out|assumption) (by repeat' (first|exact Ren.sl _ _ _ _|exact Ren.ptr _ _ _|exact Qf|apply Q7|(apply Ren.pure;(first|exact Q4.out|exact Qe.out|assumption))|apply Qm|apply Qv)) (by repeat' (first|exact Jn|(apply Ja;exact rfl;(· (exact Q6.out)))|(apply Jm;exact rfl)|exact Qf|apply Q7|exact Ren.sl _ _ _ _|exact Ren.ptr _ _ _|(apply Ren.pure;(first|exact Q4.out|exact Qe.out|assumption))|apply Qm))
end Go.Proofs.YtaolmfgpebncjaaGreat
