/- The digest of the specification. -/
import Derived.Test.YtaolmfgpebncjaaGreatXc
import Derived.Test.YtaolmfgpebncjaaGreatXd
set_option maxRecDepth 100000
set_option maxHeartbeats 3200000
set_option linter.unusedSimpArgs false
set_option linter.unusedVariables false
namespace Go.Proofs.YtaolmfgpebncjaaGreat
open Go.Av
attribute [local irreducible] T thenQ Uv Y0 Uz WX retV retR Gt Gts GtsP Qs CV CR Av.Pure
attribute [local irreducible] wGo rGo shaSt mixL blockL turnL addL keysL rotr padL sha
theorem l2Message_cr0 (d:List UInt8) (h:d.length<=1073741824):CR Tryz.prog 188 [sl1 (bA d)] [] 0 (Is (.sl 0 0 (padL d).length (padL d).length) [(0,some ⟨bA (padL d),1,true,false⟩)] (0 + 1)):=by
 refine Us Qc Tryz.func188 (by kernel_rfl) rfl 35 rfl (by simp) [.tmp 2] rfl ?_
 intro w0 ok0 wr φ0
 have hdl:=Q1 d
 have f2:IntKind.wrap .i64 ((d.length:Int) * 8) = ((d.length * 8:Nat):Int):=by rw [wrap_i64 (by omega) (by omega)];omega
 repeat' (first|refine Qh ?_|refine Q9 ?_|refine Q8 Qc ?_|refine Qi ?_|refine Qo ?_|apply Qd|apply Q2|(apply M_appB;exact rfl;exact rfl;exact Q0 rfl)|(apply S_buildL Qc;(iterate 3 exact rfl))|(apply mlen;first|exact rfl|assumption|exact Nat.le_of_ble_eq_true rfl|omega|(simp [Q1];done)|(simp [Q1];omega))|(apply msz;first|assumption|exact Nat.le_of_ble_eq_true rfl|(dsimp only;simp only [List.length_append,List.length_map,List.length_cons,List.length_nil,Q1,List.length_take,List.length_drop,List.length_replicate] at *;omega)|(dsimp only;omega))|(apply mnorm;first|with_reducible exact app_nil0 _|exact app_norm _ _|exact rfl)|(apply mtake;first|assumption|exact Ux (by first|rfl|(simp;done))|exact rfl)|exact Src.ls rfl rfl|(apply src_sl;(iterate 3 exact rfl))|(dsimp only;omega)|exact U4|(apply Ug;exact Q0 rfl)|exact Uc|apply Uq|(intro hu;cases hu;done)|exact Q0 rfl|exact Q5 rfl rfl|omega|exact rfl|fail)
 refine Js (α:=Nat) (λ z=>⟨[(0,sl1 (bA d)),(3,.sl 0 0 (d.length + 1 + z) (d.length + 1 + z))],[(0,some ⟨bA (d++[128]++List.replicate z 0),1,true,false⟩)],1⟩)
  (λ z=>padZ d.length - z) (λ z=>z<=padZ d.length) 0 ?_ (by omega) ?_
 ·have hset:bA d++[.int .u8 128] = bA (d++[128]++List.replicate 0 0):=by simp [bA]
  exact (sub_names [(0,3)] (k0:=0) rfl (by rfl) (by repeat' (first|exact pullE_nil|(apply Yl;exact rfl)|exact Ren.sl _ _ _ _|(apply Ub;(· first|exact rfl|omega);(· first|exact rfl|assumption|(simp [Q1];done)|(simp [Q1];omega));(· first|exact rfl|assumption|(simp [Q1];done)|(simp [Q1];omega)))|exact Ren.ptr _ _ _|(apply Ren.pure;(first|exact Q4.out|exact Qe.out|assumption))|exact Qf|apply Q7|apply Qm|apply Qv)) (by repeat' (first|exact Ji|(apply Yj;(· first|exact rfl|exact congrArg (λ l=>some (Box.mk l _ _ _)) hset);(· (exact Q6.out)))|(apply Jh;exact rfl)|exact Qf|apply Q7|exact Ren.sl _ _ _ _|exact Ren.ptr _ _ _|(apply Ren.pure;(first|exact Q4.out|exact Qe.out|assumption))|apply Qm)) (by repeat' (first|exact lowE_nil|apply Ye|exact Low.sl _ _ _ _ (by decide)|exact Low.ptr _ _ _ (by decide)|(apply Low.pure;(first|exact Q4.out|exact Qe.out|assumption))|exact J0|apply Qq|apply U3|apply U2)) (by repeat' (first|exact Jc|apply J1|(apply Uf.low;(exact Q6.out))|apply Ju|exact Jv|exact J0|apply Qq|exact Low.sl _ _ _ _ (by decide)|exact Low.ptr _ _ _ (by decide)|(apply Low.pure;(first|exact Q4.out|exact Qe.out|assumption)))))
 intro z hz
 have hz64:padZ d.length < 64:=by unfold padZ;omega
 have hzl:(bA (d++[128]++List.replicate z 0)).length = d.length + 1 + z:=by rw [Q1];simp;omega
 have hr:(((d.length + 1 + z:Nat):Int)).tmod 64 = (((d.length + 1 + z) % 64:Nat):Int):=by rw [Int.tmod_eq_emod_of_nonneg (by omega)];omega
 have hpz:=padZ_ok d.length z hz
 by_cases hzz:z = padZ d.length
 ·have hc:(!decide ((((d.length + 1 + z) % 64:Nat):Int) = 56)) = false:=by
   have:=hpz.2 hzz
   simp only [this];decide
  subst hzz
  generalize hP:d++[128]++List.replicate (padZ d.length) 0 = P at *
  have hpad:padL d = P++len8 (d.length * 8):=by unfold padL;rw [hP]
  have hPl:P.length = d.length + 1 + padZ d.length:=by rw [<-hzl,Q1]
  rw [<-hPl] at hzl hr hc ⊢
  rw [<-hdl] at f2
  repeat' (first|refine Qh ?_|refine Q9 ?_|refine Ua ?_|refine Jt ?_|refine Jo ?_|refine Q8 Qc ?_|refine Qi ?_|refine Un ?_|refine Qo ?_|(apply J9;exact rfl;(· (first|assumption|exact rfl)))|apply Qd|apply Q2|(apply Y4;exact Q0 rfl;exact Q0 rfl)|apply S_mul|(apply Qp;exact rfl;exact Q0 rfl)|(apply S_len_sl;exact rfl;exact Q0 rfl)|(apply S_remW;exact Q0 rfl;exact Q0 rfl;exact rfl;(· (first|exact Nat.le_of_ble_eq_true rfl|omega|decide)))|exact Q0 rfl|assumption|exact rfl|fail)
  rw [hdl]
  generalize hn:d.length * 8 = n8 at *
  have h8l:∀ j,j<=8->((len8 n8).take j).length = j:=λ j hj=>by rw [List.length_take];exact Nat.min_eq_left hj
  refine Js (α:=Nat) (λ j=>⟨[(3,.sl 0 0 (P.length + j) (P.length + j)),(4,.int .i64 (n8:Int)),(5,.int .i64 (7 - (j:Int)))],[(0,some ⟨bA (P++(len8 n8).take j),1,true,false⟩)],1⟩)
   (λ j=>8 - j) (λ j=>j<=8) 0 ?_ (by omega) ?_
  ·rw [show P++(len8 n8).take 0 = P by simp]
   exact ((Jp (by repeat' (first|exact Qy|refine Qr rfl ?_)) (by repeat' (first|exact Qz|refine Qt (by first|rfl|exact congrArg (λ l=>some (Box.mk l _ _ _)) hset) ?_)) (Nat.le_refl _))).sub
  intro j hj
  have hjl:(bA (P++(len8 n8).take j)).length = P.length + j:=by rw [Q1,List.length_append,h8l j hj]
  by_cases hj8:j < 8
  ·have hc:decide ((0:Int)<=7 - (j:Int)) = true:=by simp;omega
   have w1:IntKind.wrap .i64 (8 * (7 - (j:Int))) = 8 * (7 - (j:Int)):=wrap_i64 (by omega) (by omega)
   have w2:IntKind.wrap .u64 (8 * (7 - (j:Int))) = 8 * (7 - (j:Int)):=wrap_u64 (by omega) (by omega)
   have hs:((n8:Int)).fdiv (2 ^ min (8 * (7 - (j:Int))).toNat IntKind.i64.bits) = ((n8 >>> (56 - 8 * j):Nat):Int):=by
    rw [show (8 * (7 - (j:Int))).toNat = 56 - 8 * j by omega,show IntKind.i64.bits = 64 from rfl,Nat.min_eq_left (by omega),fdiv_pow]
   have hw:=byteN_wrap (n8 >>> (56 - 8 * j))
   have hd:IntKind.wrap .i64 ((7:Int) - (j:Int) - 1) = 7 - ((j + 1:Nat):Int):=by rw [wrap_i64 (by omega) (by omega)];omega
   have hset:bA (P++(len8 n8).take j)++[.int .u8 ((byteN (n8 >>> (56 - 8 * j))).toNat:Int)] = bA (P++(len8 n8).take (j + 1)):=by
    rw [<-bA_app,<-bA_app,List.append_assoc,len8_take n8 j hj8]
   repeat' (first|refine Qh ?_|refine Q9 ?_|refine U9 ?_|refine Q8 Qc ?_|refine Qi ?_|refine Qw ?_|refine Qo ?_|(apply Jf;exact rfl;(· (first|assumption|exact rfl)))|apply Qd|apply Q2|apply S_geq|apply S_sub|apply S_mul|(apply S_conv;exact rfl;exact rfl;exact Q0 rfl)|apply S_shrW|(apply M_appB;exact rfl;exact rfl;exact Q0 rfl)|(apply S_buildL Qc;(iterate 3 exact rfl))|(apply mlen;first|exact rfl|assumption|exact Nat.le_of_ble_eq_true rfl|omega|(simp [Q1];done)|(simp [Q1];omega))|(apply msz;first|assumption|exact Nat.le_of_ble_eq_true rfl|(dsimp only;simp only [List.length_append,List.length_map,List.length_cons,List.length_nil,Q1,List.length_take,List.length_drop,List.length_replicate] at *;omega)|(dsimp only;omega))|(apply mnorm;first|with_reducible exact app_nil0 _|exact app_norm _ _|exact rfl)|(apply mtake;first|assumption|exact Ux (by first|rfl|(simp;done))|exact rfl)|(apply src_sl;(iterate 3 exact rfl))|(dsimp only;omega)|exact U4|(apply Ug;exact Q0 rfl)|exact Uc|apply Uq|(intro hu;cases hu;done)|exact Q0 rfl|exact Q5 rfl rfl|assumption|omega|exact rfl|fail)
   exact U7 (j + 1) (sub_names [(0,2)] (k0:=0) rfl (by rfl) (by repeat' (first|exact pullE_nil|(apply Yl;exact rfl)|exact Ren.sl _ _ _ _|(apply Ub;(· first|exact rfl|omega);(· first|exact rfl|assumption|(simp [Q1];done)|(simp [Q1];omega));(· first|exact rfl|assumption|(simp [Q1];done)|(simp [Q1];omega)))|exact Ren.ptr _ _ _|(apply Ren.pure;(first|exact Q4.out|exact Qe.out|assumption))|exact Qf|apply Q7|apply Qm|apply Qv)) (by repeat' (first|exact Ji|(apply Yj;(· first|exact rfl|exact congrArg (λ l=>some (Box.mk l _ _ _)) hset);(· (exact Q6.out)))|(apply Jh;exact rfl)|exact Qf|apply Q7|exact Ren.sl _ _ _ _|exact Ren.ptr _ _ _|(apply Ren.pure;(first|exact Q4.out|exact Qe.out|assumption))|apply Qm)) (by repeat' (first|exact lowE_nil|apply Ye|exact Low.sl _ _ _ _ (by decide)|exact Low.ptr _ _ _ (by decide)|(apply Low.pure;(first|exact Q4.out|exact Qe.out|assumption))|exact J0|apply Qq|apply U3|apply U2)) (by repeat' (first|exact Jc|apply J1|(apply Uf.low;(exact Q6.out))|apply Ju|exact Jv|exact J0|apply Qq|exact Low.sl _ _ _ _ (by decide)|exact Low.ptr _ _ _ (by decide)|(apply Low.pure;(first|exact Q4.out|exact Qe.out|assumption))))) (by omega) (by omega)
  ·have hc:decide ((0:Int)<=7 - (j:Int)) = false:=by simp;omega
   obtain rfl:j = 8:=by omega
   rw [show (len8 n8).take 8 = len8 n8 from rfl,<-hpad] at hjl ⊢
   rw [Q1] at hjl
   rw [<-hjl]
   repeat' (first|refine Qh ?_|refine Q9 ?_|refine Ua ?_|refine Jt ?_|refine Jo ?_|refine Q8 Qc ?_|refine Qi ?_|refine Qu ?_|refine Un ?_|(apply J9;exact rfl;(· (first|assumption|exact rfl)))|apply Qd|apply Q2|apply S_geq|exact Q0 rfl|exact rfl|fail)
   (apply E_U0 [(0,0)]<;>repeat' (first|exact J4|(apply J3;exact rfl)|(apply Qx;(iterate 6 exact rfl))|(apply J5;(iterate 4 exact rfl);(· (first|assumption|exact rfl)))|exact Ren.sl _ _ _ _|(apply Ub;(· first|exact rfl|omega);(· first|exact rfl|assumption|(simp [Q1];done)|(simp [Q1];omega));(· first|exact rfl|assumption|(simp [Q1];done)|(simp [Q1];omega)))|exact Ren.ptr _ _ _|exact Qf|apply Q7|(apply Ren.pure;exact Q4.out)|apply Qm|apply Qv|exact Low.sl _ _ _ _ (by decide)|exact Low.ptr _ _ _ (by decide)|exact J0|apply Qq|(apply Low.pure;exact Q4.out)|apply U3|apply U2|exact Ji|(apply Jx;exact rfl;(· first|exact rfl|assumption|(simp [bA];done));exact Q6.out)|(apply Jh;exact rfl)|exact Jc|apply J1|(apply Uf.low;exact Q6.out)|apply Ju|exact Jv|exact rfl))
 ·have hc:(!decide ((((d.length + 1 + z) % 64:Nat):Int) = 56)) = true:=by
   have:(d.length + 1 + z) % 64≠56:=λ e=>hzz (hpz.1 e)
   simp;omega
  have hset:bA (d++[128]++List.replicate z 0)++[.int .u8 0] = bA (d++[128]++List.replicate (z + 1) 0):=by
   rw [List.replicate_succ',<-List.append_assoc];simp [bA]
  repeat' (first|refine Qh ?_|refine Q9 ?_|refine U9 ?_|refine Q8 Qc ?_|refine Qi ?_|refine Qw ?_|refine Qo ?_|(apply Jf;exact rfl;(· (first|assumption|exact rfl)))|apply Qd|apply Q2|(apply Y4;exact Q0 rfl;exact Q0 rfl)|(apply S_len_sl;exact rfl;exact Q0 rfl)|(apply S_remW;exact Q0 rfl;exact Q0 rfl;exact rfl;(· (first|exact Nat.le_of_ble_eq_true rfl|omega|decide)))|(apply M_appB;exact rfl;exact rfl;exact Q0 rfl)|(apply S_buildL Qc;(iterate 3 exact rfl))|(apply mlen;first|exact rfl|assumption|exact Nat.le_of_ble_eq_true rfl|omega|(simp [Q1];done)|(simp [Q1];omega))|(apply msz;first|assumption|exact Nat.le_of_ble_eq_true rfl|(dsimp only;simp only [List.length_append,List.length_map,List.length_cons,List.length_nil,Q1,List.length_take,List.length_drop,List.length_replicate] at *;omega)|(dsimp only;omega))|(apply mnorm;first|with_reducible exact app_nil0 _|exact app_norm _ _|exact rfl)|(apply mtake;first|assumption|exact Ux (by first|rfl|(simp;done))|exact rfl)|(apply src_sl;(iterate 3 exact rfl))|(dsimp only;omega)|exact U4|(apply Ug;exact Q0 rfl)|exact Uc|apply Uq|(intro hu;cases hu;done)|exact Q0 rfl|exact Q5 rfl rfl|assumption|exact rfl|fail)
  exact U7 (z + 1) (sub_names [(0,2)] (k0:=0) rfl (by rfl) (by repeat' (first|exact pullE_nil|(apply Yl;exact rfl)|exact Ren.sl _ _ _ _|(apply Ub;(· first|exact rfl|omega);(· first|exact rfl|assumption|(simp [Q1];done)|(simp [Q1];omega));(· first|exact rfl|assumption|(simp [Q1];done)|(simp [Q1];omega)))|exact Ren.ptr _ _ _|(apply Ren.pure;(first|exact Q4.out|exact Qe.out|assumption))|exact Qf|apply Q7|apply Qm|apply Qv)) (by repeat' (first|exact Ji|(apply Yj;(· first|exact rfl|exact congrArg (λ l=>some (Box.mk l _ _ _)) hset);(· (exact Q6.out)))|(apply Jh;exact rfl)|exact Qf|apply Q7|exact Ren.sl _ _ _ _|exact Ren.ptr _ _ _|(apply Ren.pure;(first|exact Q4.out|exact Qe.out|assumption))|apply Qm)) (by repeat' (first|exact lowE_nil|apply Ye|exact Low.sl _ _ _ _ (by decide)|exact Low.ptr _ _ _ (by decide)|(apply Low.pure;(first|exact Q4.out|exact Qe.out|assumption))|exact J0|apply Qq|apply U3|apply U2)) (by repeat' (first|exact Jc|apply J1|(apply Uf.low;(exact Q6.out))|apply Ju|exact Jv|exact J0|apply Qq|exact Low.sl _ _ _ _ (by decide)|exact Low.ptr _ _ _ (by decide)|(apply Low.pure;(first|exact Q4.out|exact Qe.out|assumption))))) (by omega) (by omega)
theorem l2Message_cr (d:List UInt8) (h:d.length<=1073741824) (N:Nat):CR Tryz.prog 188 [sl1 (bA d)] [] N (Is (.sl N 0 (padL d).length (padL d).length) [(N,some ⟨bA (padL d),1,true,false⟩)] (N + 1)) :=
 CR.allN (l2Message_cr0 d h) N (by first|exact Q4.out|exact Qe.out|assumption) (by repeat' (first|exact Ren.sl _ _ _ _|exact Ren.ptr _ _ _|exact Qf|apply Q7|(apply Ren.pure;(first|exact Q4.out|exact Qe.out|assumption))|apply Qm|apply Qv)) (by repeat' (first|exact Jn|(apply Ja;exact rfl;(· (exact Q6.out)))|(apply Jm;exact rfl)|exact Qf|apply Q7|exact Ren.sl _ _ _ _|exact Ren.ptr _ _ _|(apply Ren.pure;(first|exact Q4.out|exact Qe.out|assumption))|apply Qm))
end Go.Proofs.YtaolmfgpebncjaaGreat
