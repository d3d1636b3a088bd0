/- The digest of pieces. -/
import Derived.Test.YtaolmfgpebncjaaGreatXb
import Derived.Test.YtaolmfgpebncjaaGreatWt
set_option maxRecDepth 100000
set_option maxHeartbeats 3200000
set_option linter.unusedSimpArgs false
set_option linter.unusedVariables false
namespace Go.Proofs.YtaolmfgpebncjaaGreat
open Go.Av
attribute [local irreducible] T thenQ Uv Y0 Uz WX retV retR Gt Gts GtsP Qs CV CR Av.Pure
attribute [local irreducible] wGo rGo shaSt mixL blockL turnL addL keysL rotr padL sha
theorem bA_app (a b:List UInt8):bA a++bA b = bA (a++b):=by simp [bA]
theorem len8_take (n j:Nat) (h:j < 8):bA ((len8 n).take j)++[.int .u8 ((byteN (n >>> (56 - 8 * j))).toNat:Int)] = bA ((len8 n).take (j + 1)):=by
 have hj:j = 0∨j = 1∨j = 2∨j = 3∨j = 4∨j = 5∨j = 6∨j = 7:=by omega
 rcases hj with rfl|rfl|rfl|rfl|rfl|rfl|rfl|rfl<;>rfl
theorem outL_take (s:List UInt32) {i:Nat} (h:i < s.length):bA (outL (s.take i))++bA (out4 (s.getD i 0)) = bA (outL (s.take (i + 1))):=by
 have e:s.take (i + 1) = s.take i++[s.getD i 0]:=by
  rw [List.take_add_one,List.getElem?_eq_getElem h,List.getD_eq_getElem?_getD,List.getElem?_eq_getElem h];rfl
 rw [e,bA_app]
 simp [outL]
theorem startU:arU startL = .agg [.int .u32 1779033703,.int .u32 3144134277,.int .u32 1013904242,.int .u32 2773480762,.int .u32 1359893119,.int .u32 2600822924,.int .u32 528734635,.int .u32 1541459225]:=rfl
theorem digest_cr0 (ws:List (List UInt8)) (h:ws.flatten.length<=1073741824) (h2:ws.length<=1073741824):CR Tryz.prog 128 [sl1 (ws.map byA)] [] 0 (Is (.sl 0 0 32 32) [(0,some ⟨bA (sha ws.flatten),1,true,false⟩)] (0 + 1)):=by
 refine Us Qc Tryz.func128 (by kernel_rfl) rfl 79 rfl (by simp) [.tmp 2] rfl ?_
 intro w0 ok0 wr φ0
 have hl:(ws.map byA).length = ws.length:=by simp
 repeat' (first|refine Qh ?_|refine Q9 ?_|refine Q8 Qc ?_|refine Qi ?_|refine Qo ?_|apply Qd|apply Q2|(apply Qp;exact rfl;exact Q0 rfl)|(apply S_buildL Qc;(iterate 3 exact rfl))|(dsimp only;omega)|exact U4|exact Uc|exact Q0 rfl|exact rfl|fail)
 refine Js (α:=Nat) (λ k=>⟨[(3,.sl 0 0 (ws.take k).flatten.length (ws.take k).flatten.length),(13,sl1 (ws.map byA)),(14,.int .i64 (ws.map byA).length),(15,.int .i64 k)],[(0,some ⟨bA (ws.take k).flatten,1,true,false⟩)],1⟩)
  (λ k=>ws.length - k) (λ k=>k<=ws.length) 0 ((Jp (by repeat' (first|exact Qy|refine Qr rfl ?_)) (by repeat' (first|exact Qz|refine Qt (by first|rfl|exact congrArg (λ l=>some (Box.mk l _ _ _)) hset) ?_)) (Nat.le_refl _))).sub (by omega) ?_
 intro k hk
 by_cases hkl:k < ws.length
 ·have hc:decide ((k:Int) < ((ws.map byA).length:Int)) = true:=by simp only [decide_eq_true_eq];omega
  have hget:=Uy byA ws [] (k:=k) (by omega)
  have hb:=take_flat_le ws (k + 1)
  have hb':=take_flat_le ws k
  have ht:=take_flat ws hkl
  have he:=congrArg List.length ht
  rw [List.length_append] at he
  have hset:bA (ws.take k).flatten++bA (ws.getD k []) = bA (ws.take (k + 1)).flatten:=by rw [ht];simp [bA]
  have hle:(ws.take k).flatten.length + (bA (ws.getD k [])).length = (ws.take (k + 1)).flatten.length:=by rw [Q1];omega
  have hsz:((ws.take k).flatten.length + (bA (ws.getD k [])).length) * 1<=140737488355328:=by omega
  repeat' (first|refine Qh ?_|refine Q9 ?_|refine U9 ?_|refine Q8 Qc ?_|refine Qi ?_|refine Qw ?_|refine Qo ?_|(apply Jf;exact rfl;(· (first|assumption|exact rfl)))|apply Qd|apply Q2|(apply Ue;exact rfl;exact Q0 rfl;exact rfl;(· (first|exact ⟨rfl,rfl⟩|exact ⟨rfl,trivial⟩|assumption)))|apply Jd|apply Y7|(apply Jk;exact rfl;exact rfl;exact Q0 rfl;exact Q0 rfl)|(apply M_appB;exact rfl;exact rfl;exact Q0 rfl)|(apply mlen;first|exact rfl|assumption|exact Nat.le_of_ble_eq_true rfl|omega|(simp [Q1];done)|(simp [Q1];omega))|(apply msz;first|assumption|exact Nat.le_of_ble_eq_true rfl|(dsimp only;simp only [List.length_append,List.length_map,List.length_cons,List.length_nil,Q1,List.length_take,List.length_drop,List.length_replicate] at *;omega)|(dsimp only;omega))|(apply mnorm;first|with_reducible exact app_nil0 _|exact app_norm _ _|exact rfl)|exact Src.ls rfl rfl|(dsimp only;omega)|exact Q0 rfl|assumption|(apply wrap_i64;omega;omega)|(refine ⟨?_,?_⟩<;>omega)|exact rfl|fail)
  exact U7 (k + 1) (sub_names [(0,1)] (k0:=0) rfl (by rfl) (by repeat' (first|exact pullE_nil|(apply Yl;exact rfl)|exact Ren.sl _ _ _ _|(apply Ub;(· first|exact rfl|omega);(· first|exact rfl|assumption|(simp [Q1];done)|(simp [Q1];omega));(· first|exact rfl|assumption|(simp [Q1];done)|(simp [Q1];omega)))|exact Ren.ptr _ _ _|(apply Ren.pure;(first|exact Q4.out|exact Qe.out|assumption))|exact Qf|apply Q7|apply Qm|apply Qv)) (by repeat' (first|exact Ji|(apply Yj;(· first|exact rfl|exact congrArg (λ l=>some (Box.mk l _ _ _)) hset);(· (exact Q6.out)))|(apply Jh;exact rfl)|exact Qf|apply Q7|exact Ren.sl _ _ _ _|exact Ren.ptr _ _ _|(apply Ren.pure;(first|exact Q4.out|exact Qe.out|assumption))|apply Qm)) (by repeat' (first|exact lowE_nil|apply Ye|exact Low.sl _ _ _ _ (by decide)|exact Low.ptr _ _ _ (by decide)|(apply Low.pure;(first|exact Q4.out|exact Qe.out|assumption))|exact J0|apply Qq|apply U3|apply U2)) (by repeat' (first|exact Jc|apply J1|(apply Uf.low;(exact Q6.out))|apply Ju|exact Jv|exact J0|apply Qq|exact Low.sl _ _ _ _ (by decide)|exact Low.ptr _ _ _ (by decide)|(apply Low.pure;(first|exact Q4.out|exact Qe.out|assumption))))) (by omega) (by omega)
 ·have hc:decide ((k:Int) < ((ws.map byA).length:Int)) = false:=by simp only [decide_eq_false_iff_not];omega
  obtain rfl:k = ws.length:=by omega
  rw [List.take_length]
  generalize ws.flatten = d at *
  have hdl:=Q1 d
  have f1:IntKind.wrap .u64 (d.length:Int) = (d.length:Int):=wrap_u64 (by omega) (by omega)
  have f2:IntKind.wrap .u64 ((d.length:Int) * 8) = ((d.length * 8:Nat):Int):=by rw [wrap_u64 (by omega) (by omega)];omega
  repeat' (first|refine Qh ?_|refine Q9 ?_|refine Ua ?_|refine Jt ?_|refine Jo ?_|refine Q8 Qc ?_|refine Qi ?_|refine Un ?_|refine Qo ?_|(apply J9;exact rfl;(· (first|assumption|exact rfl)))|apply Qd|apply Q2|apply Jd|apply S_mul|(apply S_conv;exact rfl;exact rfl;exact Q0 rfl)|(apply S_len_sl;exact rfl;exact Q0 rfl)|(apply M_appB;exact rfl;exact rfl;exact Q0 rfl)|(apply S_buildL Qc;(iterate 3 exact rfl))|(apply mlen;first|exact rfl|assumption|exact Nat.le_of_ble_eq_true rfl|omega|(simp [Q1];done)|(simp [Q1];omega))|(apply msz;first|assumption|exact Nat.le_of_ble_eq_true rfl|(dsimp only;simp only [List.length_append,List.length_map,List.length_cons,List.length_nil,Q1,List.length_take,List.length_drop,List.length_replicate] at *;omega)|(dsimp only;omega))|(apply mnorm;first|with_reducible exact app_nil0 _|exact app_norm _ _|exact rfl)|(apply mtake;first|assumption|exact Ux (by first|rfl|(simp;done))|exact rfl)|(apply src_sl;(iterate 3 exact rfl))|(dsimp only;omega)|exact U4|(apply Ug;exact Q0 rfl)|exact Uc|apply Uq|(intro hu;cases hu;done)|exact Q0 rfl|exact Q5 rfl rfl|assumption|exact rfl|fail)
  refine Js (α:=Nat) (λ z=>⟨[(3,.sl 0 0 (d.length + 1 + z) (d.length + 1 + z)),(6,.int .u64 ((d.length * 8:Nat):Int))],[(0,some ⟨bA (d++[128]++List.replicate z 0),1,true,false⟩)],1⟩)
   (λ z=>padZ d.length - z) (λ z=>z<=padZ d.length) 0 ?_ (by omega) ?_
  ·have hset:bA d++[.int .u8 128] = bA (d++[128]++List.replicate 0 0):=by simp [bA]
   exact (sub_names [(0,2)] (k0:=0) rfl (by rfl) (by repeat' (first|exact pullE_nil|(apply Yl;exact rfl)|exact Ren.sl _ _ _ _|(apply Ub;(· first|exact rfl|omega);(· first|exact rfl|assumption|(simp [Q1];done)|(simp [Q1];omega));(· first|exact rfl|assumption|(simp [Q1];done)|(simp [Q1];omega)))|exact Ren.ptr _ _ _|(apply Ren.pure;(first|exact Q4.out|exact Qe.out|assumption))|exact Qf|apply Q7|apply Qm|apply Qv)) (by repeat' (first|exact Ji|(apply Yj;(· first|exact rfl|exact congrArg (λ l=>some (Box.mk l _ _ _)) hset);(· (exact Q6.out)))|(apply Jh;exact rfl)|exact Qf|apply Q7|exact Ren.sl _ _ _ _|exact Ren.ptr _ _ _|(apply Ren.pure;(first|exact Q4.out|exact Qe.out|assumption))|apply Qm)) (by repeat' (first|exact lowE_nil|apply Ye|exact Low.sl _ _ _ _ (by decide)|exact Low.ptr _ _ _ (by decide)|(apply Low.pure;(first|exact Q4.out|exact Qe.out|assumption))|exact J0|apply Qq|apply U3|apply U2)) (by repeat' (first|exact Jc|apply J1|(apply Uf.low;(exact Q6.out))|apply Ju|exact Jv|exact J0|apply Qq|exact Low.sl _ _ _ _ (by decide)|exact Low.ptr _ _ _ (by decide)|(apply Low.pure;(first|exact Q4.out|exact Qe.out|assumption)))))
  intro z hz
  have hz64:padZ d.length < 64:=by unfold padZ;omega
  have hzl:(bA (d++[128]++List.replicate z 0)).length = d.length + 1 + z:=by rw [Q1];simp;omega
  have hr:(((d.length + 1 + z:Nat):Int)).tmod 64 = (((d.length + 1 + z) % 64:Nat):Int):=by rw [Int.tmod_eq_emod_of_nonneg (by omega)];omega
  have hpz:=padZ_ok d.length z hz
  by_cases hzz:z = padZ d.length
  ·have hc:(!decide ((((d.length + 1 + z) % 64:Nat):Int) = 56)) = false:=by
    have:=hpz.2 hzz
    simp only [this];decide
   subst hzz
   generalize hP:d++[128]++List.replicate (padZ d.length) 0 = P at *
   have hpad:padL d = P++len8 (d.length * 8):=by unfold padL;rw [hP]
   have hPl:P.length = d.length + 1 + padZ d.length:=by rw [<-hzl,Q1]
   rw [<-hPl] at hzl hr hc ⊢
   repeat' (first|refine Qh ?_|refine Q9 ?_|refine Ua ?_|refine Jt ?_|refine Jo ?_|refine Q8 Qc ?_|refine Qi ?_|refine Un ?_|refine Qo ?_|(apply J9;exact rfl;(· (first|assumption|exact rfl)))|apply Qd|apply Q2|(apply Y4;exact Q0 rfl;exact Q0 rfl)|(apply S_len_sl;exact rfl;exact Q0 rfl)|(apply S_remW;exact Q0 rfl;exact Q0 rfl;exact rfl;(· (first|exact Nat.le_of_ble_eq_true rfl|omega|decide)))|exact Q0 rfl|assumption|exact rfl|fail)
   generalize hn:d.length * 8 = n8 at *
   have h8l:∀ j,j<=8->((len8 n8).take j).length = j:=λ j hj=>by rw [List.length_take];exact Nat.min_eq_left hj
   refine Js (α:=Nat) (λ j=>⟨[(3,.sl 0 0 (P.length + j) (P.length + j)),(6,.int .u64 (n8:Int)),(7,.int .i64 (56 - 8 * (j:Int)))],[(0,some ⟨bA (P++(len8 n8).take j),1,true,false⟩)],1⟩)
    (λ j=>8 - j) (λ j=>j<=8) 0 ?_ (by omega) ?_
   ·rw [show P++(len8 n8).take 0 = P by simp]
    exact ((Jp (by repeat' (first|exact Qy|refine Qr rfl ?_)) (by repeat' (first|exact Qz|refine Qt (by first|rfl|exact congrArg (λ l=>some (Box.mk l _ _ _)) hset) ?_)) (Nat.le_refl _))).sub
   intro j hj
   have hjl:(bA (P++(len8 n8).take j)).length = P.length + j:=by rw [Q1,List.length_append,h8l j hj]
   by_cases hj8:j < 8
   ·have hc:decide ((0:Int)<=56 - 8 * (j:Int)) = true:=by simp;omega
    have hs:((n8:Int)).fdiv (2 ^ min ((56:Int) - 8 * (j:Int)).toNat IntKind.u64.bits) = ((n8 >>> (56 - 8 * j):Nat):Int):=by
     rw [show ((56:Int) - 8 * (j:Int)).toNat = 56 - 8 * j by omega,show IntKind.u64.bits = 64 from rfl,Nat.min_eq_left (by omega),fdiv_pow]
    have hw:=byteN_wrap (n8 >>> (56 - 8 * j))
    have hd:IntKind.wrap .i64 ((56:Int) - 8 * (j:Int) - 8) = 56 - 8 * ((j + 1:Nat):Int):=by rw [wrap_i64 (by omega) (by omega)];omega
    have hset:bA (P++(len8 n8).take j)++[.int .u8 ((byteN (n8 >>> (56 - 8 * j))).toNat:Int)] = bA (P++(len8 n8).take (j + 1)):=by
     rw [<-bA_app,<-bA_app,List.append_assoc,len8_take n8 j hj8]
    repeat' (first|refine Qh ?_|refine Q9 ?_|refine U9 ?_|refine Q8 Qc ?_|refine Qi ?_|refine Qw ?_|refine Qo ?_|(apply Jf;exact rfl;(· (first|assumption|exact rfl)))|apply Qd|apply Q2|apply S_geq|apply S_sub|(apply S_conv;exact rfl;exact rfl;exact Q0 rfl)|apply S_shrW|(apply M_appB;exact rfl;exact rfl;exact Q0 rfl)|(apply S_buildL Qc;(iterate 3 exact rfl))|(apply mlen;first|exact rfl|assumption|exact Nat.le_of_ble_eq_true rfl|omega|(simp [Q1];done)|(simp [Q1];omega))|(apply msz;first|assumption|exact Nat.le_of_ble_eq_true rfl|(dsimp only;simp only [List.length_append,List.length_map,List.length_cons,List.length_nil,Q1,List.length_take,List.length_drop,List.length_replicate] at *;omega)|(dsimp only;omega))|(apply mnorm;first|with_reducible exact app_nil0 _|exact app_norm _ _|exact rfl)|(apply mtake;first|assumption|exact Ux (by first|rfl|(simp;done))|exact rfl)|(apply src_sl;(iterate 3 exact rfl))|(dsimp only;omega)|exact U4|(apply Ug;exact Q0 rfl)|exact Uc|apply Uq|(intro hu;cases hu;done)|exact Q0 rfl|exact Q5 rfl rfl|assumption|omega|exact rfl|fail)
    exact U7 (j + 1) (sub_names [(0,2)] (k0:=0) rfl (by rfl) (by repeat' (first|exact pullE_nil|(apply Yl;exact rfl)|exact Ren.sl _ _ _ _|(apply Ub;(· first|exact rfl|omega);(· first|exact rfl|assumption|(simp [Q1];done)|(simp [Q1];omega));(· first|exact rfl|assumption|(simp [Q1];done)|(simp [Q1];omega)))|exact Ren.ptr _ _ _|(apply Ren.pure;(first|exact Q4.out|exact Qe.out|assumption))|exact Qf|apply Q7|apply Qm|apply Qv)) (by repeat' (first|exact Ji|(apply Yj;(· first|exact rfl|exact congrArg (λ l=>some (Box.mk l _ _ _)) hset);(· (exact Q6.out)))|(apply Jh;exact rfl)|exact Qf|apply Q7|exact Ren.sl _ _ _ _|exact Ren.ptr _ _ _|(apply Ren.pure;(first|exact Q4.out|exact Qe.out|assumption))|apply Qm)) (by repeat' (first|exact lowE_nil|apply Ye|exact Low.sl _ _ _ _ (by decide)|exact Low.ptr _ _ _ (by decide)|(apply Low.pure;(first|exact Q4.out|exact Qe.out|assumption))|exact J0|apply Qq|apply U3|apply U2)) (by repeat' (first|exact Jc|apply J1|(apply Uf.low;(exact Q6.out))|apply Ju|exact Jv|exact J0|apply Qq|exact Low.sl _ _ _ _ (by decide)|exact Low.ptr _ _ _ (by decide)|(apply Low.pure;(first|exact Q4.out|exact Qe.out|assumption))))) (by omega) (by omega)
   ·have hc:decide ((0:Int)<=56 - 8 * (j:Int)) = false:=by simp;omega
    obtain rfl:j = 8:=by omega
    have hpl:=padL_length d
    rw [show (len8 n8).take 8 = len8 n8 from rfl,<-hpad] at hjl ⊢
    rw [Q1] at hjl
    rw [<-hjl]
    have hsha:sha d = outL (shaSt (padL d) ((padL d).length / 64)):=by rw [sha]
    have hQ:(padL d).length<=1073741824 + 128:=by omega
    rw [hsha]
    clear hpad hsha hjl
    generalize padL d = Q at *
    generalize Q.length / 64 = nb at *
    have okst:Qs 8 (arU startL):=okCells_arr _ _ rfl
    rw [startU] at okst
    repeat' (first|refine Qh ?_|refine Q9 ?_|refine Ua ?_|refine Jt ?_|refine Jo ?_|refine Q8 Qc ?_|refine Qi ?_|refine Un ?_|refine Qo ?_|(apply S_buildAL Qc;(iterate 4 exact rfl);(· repeat' (first|exact U4|(apply Ug;exact Q0 rfl)));exact rfl;(· infer_instance))|(apply J9;exact rfl;(· (first|assumption|exact rfl)))|apply Qd|apply S_geq|apply U0|(apply Jg;exact rfl;exact Q0 rfl;(iterate 4 exact rfl))|(dsimp only;omega)|exact Q0 rfl|exact Q5 rfl rfl|exact rfl|fail)
    refine Js (α:=Nat) (λ b=>⟨[(3,.sl 0 (64 * b) (Q.length - 64 * b) (Q.length - 64 * b)),(8,.ptr 1 0 0)],[(0,some ⟨bA Q,1,true,false⟩),(1,some ⟨[arU (shaSt Q b)],8,false,false⟩)],2⟩)
     (λ b=>nb - b) (λ b=>b<=nb) 0 ?_ (by omega) ?_
    ·rw [show shaSt Q 0 = startL by rw [shaSt],startU]
     exact ((Jp (by repeat' (first|exact Qy|refine Qr rfl ?_)) (by repeat' (first|exact Qz|refine Qt (by first|rfl|exact congrArg (λ l=>some (Box.mk l _ _ _)) hset) ?_)) (Nat.le_refl _))).sub
    intro b hb
    have hQl:=Q1 Q
    have hstl:=shaSt_length Q b
    have hstl':((shaSt Q b).map u32A).length = 8:=by rw [List.length_map,hstl]
    by_cases hbn:b < nb
    ·have hc:decide ((0:Int) < ((Q.length - 64 * b:Nat):Int)) = true:=by simp;omega
     have hcl:((Q.drop (64 * b)).take 64).length = 64:=by rw [List.length_take,List.length_drop];omega
     have hsub:List.take (64 - 0) (List.drop (64 * b + 0) (bA Q)) = bA ((Q.drop (64 * b)).take 64):=by simp [bA]
     have hnx:shaSt Q (b + 1) = blockL (shaSt Q b) ((Q.drop (64 * b)).take 64):=by rw [shaSt]
     have c0:=block_cv (shaSt Q b) ((Q.drop (64 * b)).take 64) hstl hcl
     have okb:Qs 8 (arU (blockL (shaSt Q b) ((Q.drop (64 * b)).take 64))):=okCells_arr _ _ (blockL_length hstl _)
     rw [<-hnx] at c0 okb
     repeat' (first|refine Qh ?_|refine Q9 ?_|refine U9 ?_|refine Q8 Qc ?_|(apply T_drawM (id:=18) 3 Qc Uw;exact rfl;exact rfl;(· kernel_rfl);exact Nat.le_of_ble_eq_true rfl)|refine Qi ?_|refine Qw ?_|refine Qo ?_|(apply M_loadWA;exact rfl;exact rfl;exact Q0 rfl;exact rfl;exact rfl;(· (first|assumption|exact rfl)))|(apply Jf;exact rfl;(· (first|assumption|exact rfl)))|apply Qd|apply Q2|apply S_gtr|(apply S_len_sl;exact rfl;exact Q0 rfl)|(apply Jg;exact rfl;exact Q0 rfl;(iterate 4 exact rfl))|(apply M_slSl;exact rfl;exact rfl;exact Q0 rfl;exact rfl;exact rfl)|apply Qk (f:=174)|apply c0|exact Qa|apply Q3|(apply View.pure;exact Q4.out)|(apply view_slN;exact rfl;(· (apply mlen;first|exact rfl|assumption|exact Nat.le_of_ble_eq_true rfl|omega|(simp [Q1];done)|(simp [Q1];omega)));exact Q6.out)|(apply mtake;first|assumption|exact Ux (by first|rfl|(simp;done))|exact rfl)|exact Jq.out|(apply mlen;first|exact rfl|assumption|exact Nat.le_of_ble_eq_true rfl|omega|(simp [Q1];done)|(simp [Q1];omega))|(apply mtake;first|assumption|exact Ux (by first|rfl|(simp;done))|exact rfl)|(dsimp only;omega)|(apply mnat;first|exact Int.toNat_natCast _|exact rfl)|exact Bd.no _|(apply bd_at;exact Q0 rfl)|exact Q0 rfl|exact Ql|(apply Qg;exact Q0 rfl)|omega|exact rfl|fail)
     exact U7 (b + 1) (sub_names [(0,0),(1,1)] (k0:=0) rfl (by rfl) (by repeat' (first|exact pullE_nil|(apply Yl;exact rfl)|exact Ren.sl _ _ _ _|(apply Ub;(· first|exact rfl|omega);(· first|exact rfl|assumption|(simp [Q1];done)|(simp [Q1];omega));(· first|exact rfl|assumption|(simp [Q1];done)|(simp [Q1];omega)))|exact Ren.ptr _ _ _|(apply Ren.pure;(first|exact Q4.out|exact Qe.out|assumption))|exact Qf|apply Q7|apply Qm|apply Qv)) (by repeat' (first|exact Ji|(apply Yj;(· first|exact rfl|exact congrArg (λ l=>some (Box.mk l _ _ _)) hset);(· (exact Q6.out)))|(apply Jh;exact rfl)|exact Qf|apply Q7|exact Ren.sl _ _ _ _|exact Ren.ptr _ _ _|(apply Ren.pure;(first|exact Q4.out|exact Qe.out|assumption))|apply Qm)) (by repeat' (first|exact lowE_nil|apply Ye|exact Low.sl _ _ _ _ (by decide)|exact Low.ptr _ _ _ (by decide)|(apply Low.pure;(first|exact Q4.out|exact Qe.out|assumption))|exact J0|apply Qq|apply U3|apply U2)) (by repeat' (first|exact Jc|apply J1|(apply Uf.low;(exact Q6.out))|apply Ju|exact Jv|exact J0|apply Qq|exact Low.sl _ _ _ _ (by decide)|exact Low.ptr _ _ _ (by decide)|(apply Low.pure;(first|exact Q4.out|exact Qe.out|assumption))))) (by omega) (by omega)
    ·have hc:decide ((0:Int) < ((Q.length - 64 * b:Nat):Int)) = false:=by simp;omega
     obtain rfl:b = nb:=by omega
     generalize shaSt Q b = S at *
     repeat' (first|refine Qh ?_|refine Q9 ?_|refine Ua ?_|refine Jt ?_|refine Jo ?_|refine Q8 Qc ?_|refine Qi ?_|refine Un ?_|refine Qo ?_|(apply M_loadWA;exact rfl;exact rfl;exact Q0 rfl;exact rfl;exact rfl;(· (first|assumption|exact rfl)))|(apply J9;exact rfl;(· (first|assumption|exact rfl)))|apply Qd|apply Q2|apply S_gtr|(apply S_len_sl;exact rfl;exact Q0 rfl)|(apply S_buildL Qc;(iterate 3 exact rfl))|(dsimp only;omega)|exact U4|exact Uc|exact Q0 rfl|exact rfl|fail)
     refine Js (α:=Nat) (λ i=>⟨[(9,.sl 0 0 (4 * i) (4 * i)),(59,arU S),(60,.int .i64 i)],[(0,some ⟨bA (outL (S.take i)),1,true,false⟩)],1⟩)
      (λ i=>8 - i) (λ i=>i<=8) 0 ?_ (by omega) ?_
     ·rw [show bA (outL (S.take 0)) = [] by simp [outL,bA]]
      exact (sub_names [(0,2)] (k0:=0) rfl (by rfl) (by repeat' (first|exact pullE_nil|(apply Yl;exact rfl)|exact Ren.sl _ _ _ _|(apply Ub;(· first|exact rfl|omega);(· first|exact rfl|assumption|(simp [Q1];done)|(simp [Q1];omega));(· first|exact rfl|assumption|(simp [Q1];done)|(simp [Q1];omega)))|exact Ren.ptr _ _ _|(apply Ren.pure;(first|exact Q4.out|exact Qe.out|assumption))|exact Qf|apply Q7|apply Qm|apply Qv)) (by repeat' (first|exact Ji|(apply Yj;(· first|exact rfl|exact congrArg (λ l=>some (Box.mk l _ _ _)) hset);(· (exact Q6.out)))|(apply Jh;exact rfl)|exact Qf|apply Q7|exact Ren.sl _ _ _ _|exact Ren.ptr _ _ _|(apply Ren.pure;(first|exact Q4.out|exact Qe.out|assumption))|apply Qm)) (by repeat' (first|exact lowE_nil|apply Ye|exact Low.sl _ _ _ _ (by decide)|exact Low.ptr _ _ _ (by decide)|(apply Low.pure;(first|exact Q4.out|exact Qe.out|assumption))|exact J0|apply Qq|apply U3|apply U2)) (by repeat' (first|exact Jc|apply J1|(apply Uf.low;(exact Q6.out))|apply Ju|exact Jv|exact J0|apply Qq|exact Low.sl _ _ _ _ (by decide)|exact Low.ptr _ _ _ (by decide)|(apply Low.pure;(first|exact Q4.out|exact Qe.out|assumption)))))
     intro i hi
     have hix':=ix_nat' i
     have hol:(bA (outL (S.take i))).length = 4 * i:=by rw [Q1,outL_length,List.length_take];omega
     by_cases h8:i < 8
     ·have hc:decide ((i:Int) < 8) = true:=by simp only [decide_eq_true_eq];omega
      have hw1:IntKind.wrap .i64 ((i:Int) + 1) = ((i + 1:Nat):Int):=by rw [wrap_i64 (by omega) (by omega)];omega
      have g1:=arr_at u32A S 0 (k:=i) (by omega)
      have hset:=outL_take S (i:=i) (by omega)
      generalize S.getD i 0 = x at *
      have s24:=u32_shrN x 24 (by decide)
      have s16:=u32_shrN x 16 (by decide)
      have s8:=u32_shrN x 8 (by decide)
      have w24:=byteN_wrap (x.toNat >>> 24)
      have w16:=byteN_wrap (x.toNat >>> 16)
      have w8:=byteN_wrap (x.toNat >>> 8)
      have w0:=byteN_wrap x.toNat
      repeat' (first|refine Qh ?_|refine Q9 ?_|refine U9 ?_|refine Q8 Qc ?_|refine Qi ?_|refine Qw ?_|refine Qo ?_|(apply M_indexA;exact rfl;exact rfl;exact Q0 rfl;exact Q0 rfl;(· (first|assumption|exact ⟨by omega,by omega⟩));(· (apply mix;first|assumption|exact rfl));(· (first|assumption|exact rfl));(· (first|exact ⟨rfl,rfl⟩|exact ⟨rfl,trivial⟩|assumption)))|(apply Jf;exact rfl;(· (first|assumption|exact rfl)))|apply Qd|apply Q2|apply Jd|apply Y7|(apply S_conv;exact rfl;exact rfl;exact Q0 rfl)|apply S_shrW|(apply M_appB;exact rfl;exact rfl;exact Q0 rfl)|(apply S_buildL Qc;(iterate 3 exact rfl))|(apply mlen;first|exact rfl|assumption|exact Nat.le_of_ble_eq_true rfl|omega|(simp [Q1];done)|(simp [Q1];omega))|(apply msz;first|assumption|exact Nat.le_of_ble_eq_true rfl|(dsimp only;simp only [List.length_append,List.length_map,List.length_cons,List.length_nil,Q1,List.length_take,List.length_drop,List.length_replicate] at *;omega)|(dsimp only;omega))|(apply mnorm;first|with_reducible exact app_nil0 _|exact app_norm _ _|exact rfl)|(apply mtake;first|assumption|exact Ux (by first|rfl|(simp;done))|exact rfl)|(apply src_sl;(iterate 3 exact rfl))|(dsimp only;omega)|exact U4|(apply Ug;exact Q0 rfl)|exact Uc|apply Uq|(intro hu;cases hu;done)|exact Q0 rfl|exact Q5 rfl rfl|assumption|omega|exact rfl|fail)
      exact U7 (i + 1) (sub_names [(0,2)] (k0:=0) rfl (by rfl) (by repeat' (first|exact pullE_nil|(apply Yl;exact rfl)|exact Ren.sl _ _ _ _|(apply Ub;(· first|exact rfl|omega);(· first|exact rfl|assumption|(simp [Q1];done)|(simp [Q1];omega));(· first|exact rfl|assumption|(simp [Q1];done)|(simp [Q1];omega)))|exact Ren.ptr _ _ _|(apply Ren.pure;(first|exact Q4.out|exact Qe.out|assumption))|exact Qf|apply Q7|apply Qm|apply Qv)) (by repeat' (first|exact Ji|(apply Yj;(· first|exact rfl|exact congrArg (λ l=>some (Box.mk l _ _ _)) hset);(· (exact Q6.out)))|(apply Jh;exact rfl)|exact Qf|apply Q7|exact Ren.sl _ _ _ _|exact Ren.ptr _ _ _|(apply Ren.pure;(first|exact Q4.out|exact Qe.out|assumption))|apply Qm)) (by repeat' (first|exact lowE_nil|apply Ye|exact Low.sl _ _ _ _ (by decide)|exact Low.ptr _ _ _ (by decide)|(apply Low.pure;(first|exact Q4.out|exact Qe.out|assumption))|exact J0|apply Qq|apply U3|apply U2)) (by repeat' (first|exact Jc|apply J1|(apply Uf.low;(exact Q6.out))|apply Ju|exact Jv|exact J0|apply Qq|exact Low.sl _ _ _ _ (by decide)|exact Low.ptr _ _ _ (by decide)|(apply Low.pure;(first|exact Q4.out|exact Qe.out|assumption))))) (by omega) (by omega)
     ·have hc:decide ((i:Int) < 8) = false:=by simp only [decide_eq_false_iff_not];omega
      obtain rfl:i = 8:=by omega
      rw [List.take_of_length_le (by omega)]
      repeat' (first|refine Qh ?_|refine Q9 ?_|refine Ua ?_|refine Jt ?_|refine Jo ?_|refine Q8 Qc ?_|refine Qi ?_|refine Qu ?_|refine Un ?_|(apply J9;exact rfl;(· (first|assumption|exact rfl)))|apply Qd|apply Q2|apply Jd|exact Q0 rfl|exact rfl|fail)
      (apply E_U0 [(0,0)]<;>repeat' (first|exact J4|(apply J3;exact rfl)|(apply Qx;(iterate 6 exact rfl))|(apply J5;(iterate 4 exact rfl);(· (first|assumption|exact rfl)))|exact Ren.sl _ _ _ _|(apply Ub;(· first|exact rfl|omega);(· first|exact rfl|assumption|(simp [Q1];done)|(simp [Q1];omega));(· first|exact rfl|assumption|(simp [Q1];done)|(simp [Q1];omega)))|exact Ren.ptr _ _ _|exact Qf|apply Q7|(apply Ren.pure;exact Q4.out)|apply Qm|apply Qv|exact Low.sl _ _ _ _ (by decide)|exact Low.ptr _ _ _ (by decide)|exact J0|apply Qq|(apply Low.pure;exact Q4.out)|apply U3|apply U2|exact Ji|(apply Jx;exact rfl;(· first|exact rfl|assumption|(simp [bA];done));exact Q6.out)|(apply Jh;exact rfl)|exact Jc|apply J1|(apply Uf.low;exact Q6.out)|apply Ju|exact Jv|exact rfl))
  ·have hc:(!decide ((((d.length + 1 + z) % 64:Nat):Int) = 56)) = true:=by
    have:(d.length + 1 + z) % 64≠56:=λ e=>hzz (hpz.1 e)
    simp;omega
   have hset:bA (d++[128]++List.replicate z 0)++[.int .u8 0] = bA (d++[128]++List.replicate (z + 1) 0):=by
    rw [List.replicate_succ',<-List.append_assoc];simp [bA]
   repeat' (first|refine Qh ?_|refine Q9 ?_|refine U9 ?_|refine Q8 Qc ?_|refine Qi ?_|refine Qw ?_|refine Qo ?_|(apply Jf;exact rfl;(· (first|assumption|exact rfl)))|apply Qd|apply Q2|(apply Y4;exact Q0 rfl;exact Q0 rfl)|(apply S_len_sl;exact rfl;exact Q0 rfl)|(apply S_remW;exact Q0 rfl;exact Q0 rfl;exact rfl;(· (first|exact Nat.le_of_ble_eq_true rfl|omega|decide)))|(apply M_appB;exact rfl;exact rfl;exact Q0 rfl)|(apply S_buildL Qc;(iterate 3 exact rfl))|(apply mlen;first|exact rfl|assumption|exact Nat.le_of_ble_eq_true rfl|omega|(simp [Q1];done)|(simp [Q1];omega))|(apply msz;first|assumption|exact Nat.le_of_ble_eq_true rfl|(dsimp only;simp only [List.length_append,List.length_map,List.length_cons,List.length_nil,Q1,List.length_take,List.length_drop,List.length_replicate] at *;omega)|(dsimp only;omega))|(apply mnorm;first|with_reducible exact app_nil0 _|exact app_norm _ _|exact rfl)|(apply mtake;first|assumption|exact Ux (by first|rfl|(simp;done))|exact rfl)|(apply src_sl;(iterate 3 exact rfl))|(dsimp only;omega)|exact U4|(apply Ug;exact Q0 rfl)|exact Uc|apply Uq|(intro hu;cases hu;done)|exact Q0 rfl|exact Q5 rfl rfl|assumption|exact rfl|fail)
   exact U7 (z + 1) (sub_names [(0,2)] (k0:=0) rfl (by rfl) (by repeat' (first|exact pullE_nil|(apply Yl;exact rfl)|exact Ren.sl _ _ _ _|(apply Ub;(· first|exact rfl|omega);(· first|exact rfl|assumption|(simp [Q1];done)|(simp [Q1];omega));(· first|exact rfl|assumption|(simp [Q1];done)|(simp [Q1];omega)))|exact Ren.ptr _ _ _|(apply Ren.pure;(first|exact Q4.out|exact Qe.out|assumption))|exact Qf|apply Q7|apply Qm|apply Qv)) (by repeat' (first|exact Ji|(apply Yj;(· first|exact rfl|exact congrArg (λ l=>some (Box.mk l _ _ _)) hset);(· (exact Q6.out)))|(apply Jh;exact rfl)|exact Qf|apply Q7|exact Ren.sl _ _ _ _|exact Ren.ptr _ _ _|(apply Ren.pure;(first|exact Q4.out|exact Qe.out|assumption))|apply Qm)) (by repeat' (first|exact lowE_nil|apply Ye|exact Low.sl _ _ _ _ (by decide)|exact Low.ptr _ _ _ (by decide)|(apply Low.pure;(first|exact Q4.out|exact Qe.out|assumption))|exact J0|apply Qq|apply U3|apply U2)) (by repeat' (first|exact Jc|apply J1|(apply Uf.low;(exact Q6.out))|apply Ju|exact Jv|exact J0|apply Qq|exact Low.sl _ _ _ _ (by decide)|exact Low.ptr _ _ _ (by decide)|(apply Low.pure;(first|exact Q4.out|exact Qe.out|assumption))))) (by omega) (by omega)
theorem digest_cr (ws:List (List UInt8)) (h:ws.flatten.length<=1073741824) (h2:ws.length<=1073741824) (N:Nat):CR Tryz.prog 128 [sl1 (ws.map byA)] [] N (Is (.sl N 0 32 32) [(N,some ⟨bA (sha ws.flatten),1,true,false⟩)] (N + 1)) :=
 CR.allN (digest_cr0 ws h h2) N (by first|exact Q4.out|exact Qe.out|assumption) (by repeat' (first|exact Ren.sl _ _ _ _|exact Ren.ptr _ _ _|exact Qf|apply Q7|(apply Ren.pure;(first|exact Q4.out|exact Qe.out|assumption))|apply Qm|apply Qv)) (by repeat' (first|exact Jn|(apply Ja;exact rfl;(· (exact Q6.out)))|(apply Jm;exact rfl)|exact Qf|apply Q7|exact Ren.sl _ _ _ _|exact Ren.ptr _ _ _|(apply Ren.pure;(first|exact Q4.out|exact Qe.out|assumption))|apply Qm))
end Go.Proofs.YtaolmfgpebncjaaGreat
