/- Blocks laid anew in boxes, and marked. -/
import Derived.Test.YtaolmfgpebncjaaGreatNi
import Derived.Test.YtaolmfgpebncjaaGreatGj
import Derived.Test.YtaolmfgpebncjaaGreatGk
set_option maxRecDepth 100000
set_option maxHeartbeats 3200000
set_option linter.unusedSimpArgs false
set_option linter.unusedVariables false
namespace Go.Proofs.YtaolmfgpebncjaaGreat
open Go.Av
attribute [local irreducible] T thenQ Uv Y0 Uz WX retV retR Gt Gts GtsP Qs CV CR Av.Pure
theorem toBlks_cr0 (l:List Blk) (h:Y9 BlkW l<=1048576):CR Tryz.prog 10 [blkAS l] [] 0 (Is (.sl (0 + 2) 0 l.length l.length) [(0,some ⟨bA (l.map blkBy).flatten,1,true,false⟩),(0 + 1,some ⟨outsB 0 0 l,1,true,false⟩),(0 + 2,some ⟨blksN 0 (0 + 1) l,7,false,false⟩)] (0 + 3)):=by
 refine Us Qc Tryz.func10 (by kernel_rfl) rfl 23 rfl (by simp) [.tmp 2] rfl ?_
 intro w0 ok0 wr φ0
 have hl:(l.map blkA).length = l.length:=by simp
 have hn:l.length<=1048576:=by unfold Y9 at h;omega
 repeat' (first|refine Qh ?_|refine Q9 ?_|refine Q8 Qc ?_|refine Qi ?_|refine Qo ?_|apply Qd|apply Q2|(apply Qp;exact rfl;exact Q0 rfl)|(apply S_make;exact rfl;exact rfl;exact Q0 rfl;exact Q0 rfl;exact rfl;(· (first|assumption|omega));(· (first|assumption|omega|(dsimp only;omega)|(simp;omega)));(· (first|assumption|omega|(dsimp only;omega)|(simp;omega)));(· (first|assumption|omega|(dsimp only;omega)|(simp;omega)));(· (first|exact Q5 rfl rfl|assumption));(· (first|exact Nat.le_of_ble_eq_true rfl|omega|decide)))|exact Q0 rfl|exact rfl|fail)
 refine Js (α:=Nat) (λ j=>⟨[(0,blkAS l),(3,.sl 0 0 (l.map blkA).length (l.map blkA).length),(4,.int .i64 j)],
   [(2,some ⟨outsB 1 0 (l.take j),1,true,false⟩),(1,some ⟨bA ((l.take j).map blkBy).flatten,1,true,false⟩),(0,some ⟨blksN 1 2 (l.take j)++List.replicate ((l.map blkA).length - j) blkZ,7,false,false⟩)],3⟩)
  (λ j=>l.length - j) (λ j=>j<=l.length) 0 (Sub.trans (sub_up (env:=[(0,blkAS l),(3,.sl 0 0 (l.map blkA).length (l.map blkA).length),(4,.int .i64 0)]) 1 (by repeat' (first|exact upE_nil|(apply upE_cons;exact rfl;exact Up.refl _)))) (sub_up 1 (by repeat' (first|exact upE_nil|(apply upE_cons;exact rfl;exact Up.refl _))))) (by omega) ?_
 intro j hj
 by_cases hjl:j < l.length
 ·have hc:decide ((j:Int) < ((l.map blkA).length:Int)) = true:=by simp only [decide_eq_true_eq];omega
  have g1:=Uy blkA l Blk0 (k:=j) hjl
  have hw1:IntKind.wrap .i64 ((j:Int) + 1) = ((j + 1:Nat):Int):=by rw [wrap_i64 (by omega) (by omega)];omega
  have hmem:l.getD j Blk0∈l:=by rw [List.getD_eq_getElem?_getD,List.getElem?_eq_getElem hjl];exact List.getElem_mem hjl
  have hwl:=listW_mem BlkW l hmem
  have htk:l.take (j + 1) = l.take j++[l.getD j Blk0]:=by rw [List.take_add_one,List.getD_eq_getElem?_getD,List.getElem?_eq_getElem hjl];rfl
  have hf0:bA ((l.take j).map blkBy).flatten++bA (l.getD j Blk0).head.parent = bA (((l.take j).map blkBy).flatten++(l.getD j Blk0).head.parent):=by simp [bA]
  have hf1:bA (((l.take j).map blkBy).flatten++(l.getD j Blk0).head.parent)++bA (l.getD j Blk0).head.root = bA (((l.take j).map blkBy).flatten++(l.getD j Blk0).head.parent++(l.getD j Blk0).head.root):=by simp [bA]
  have hf2:bA (((l.take j).map blkBy).flatten++(l.getD j Blk0).head.parent++(l.getD j Blk0).head.root)++bA (l.getD j Blk0).events.flatten = bA ((l.take (j + 1)).map blkBy).flatten:=by rw [htk];simp [bA,blkBy]
  have hM:(bA ((l.take j).map blkBy).flatten).length = ((l.take j).map blkBy).flatten.length:=Q1 _
  have hM1:(bA (((l.take j).map blkBy).flatten++(l.getD j Blk0).head.parent)).length = ((l.take j).map blkBy).flatten.length + (l.getD j Blk0).head.parent.length:=by rw [Q1,List.length_append]
  have hM2:(bA (((l.take j).map blkBy).flatten++(l.getD j Blk0).head.parent++(l.getD j Blk0).head.root)).length = ((l.take j).map blkBy).flatten.length + (l.getD j Blk0).head.parent.length + (l.getD j Blk0).head.root.length:=by rw [Q1,List.length_append,List.length_append]
  have hss:=blks_sum1 (l.take j)
  have hQl:=outsB_length 1 0 (l.take j)
  have c0:=λ N=>toBlock_cr (l.getD j Blk0) (by omega) N
  have hol:(blksN 1 2 (l.take j)).length = j:=by rw [blksN_length,List.length_take];omega
  generalize l.getD j Blk0 = w at *
  have hset:=set_here (x:=.agg [.sl 3 0 w.head.parent.length w.head.parent.length,.int .i64 w.head.height,.int .i64 w.head.time,.int .i64 w.head.zeros,.sl 4 0 w.head.root.length w.head.root.length,.int .i64 w.head.nonce,.sl 6 0 w.events.length w.events.length]) (z:=blkZ) (n:=(l.map blkA).length) hol (by omega)
  have hin:0 + ((j:Int)).toNat < (blksN 1 2 (l.take j)++List.replicate ((l.map blkA).length - j) blkZ).length:=by
   simp only [List.length_append,List.length_replicate,hol];omega
  have i1:(0:Int)<=(j:Int)/\(j:Int) < ((l.map blkA).length:Int):=by omega
  have hQ:outsB 1 0 (l.take j)++Yb 1 (((l.take j).map blkBy).flatten.length + w.head.parent.length + w.head.root.length + 0) (w.events.map List.length) = outsB 1 0 (l.take (j + 1)):=by
   rw [htk,outsB_append,hss]
   simp [outsB]
  have hB:blksN 1 2 (l.take (j + 1)) = blksN 1 2 (l.take j)++[.agg [.sl 1 ((l.take j).map blkBy).flatten.length w.head.parent.length w.head.parent.length,.int .i64 w.head.height,.int .i64 w.head.time,.int .i64 w.head.zeros,.sl 1 (((l.take j).map blkBy).flatten.length + w.head.parent.length) w.head.root.length w.head.root.length,.int .i64 w.head.nonce,.sl 2 (outsB 1 0 (l.take j)).length w.events.length w.events.length]]:=by
   rw [htk]
   unfold blksN
   rw [laidN_snoc,hss,hQl,Nat.zero_add,Nat.zero_add]
   rfl
  repeat' (first|refine Qh ?_|refine Q9 ?_|refine U9 ?_|refine Q8 Qc ?_|refine Qi ?_|refine Qw ?_|refine Qo ?_|(apply Jf;exact rfl;(· (first|assumption|exact rfl)))|apply Qd|apply Q2|(apply Uo;exact rfl;exact Q0 rfl;exact rfl;exact rfl)|apply Jd|apply Y7|(apply Qp;exact rfl;exact Q0 rfl)|(apply Jk;exact rfl;exact rfl;exact Q0 rfl;exact Q0 rfl)|(apply S_idxSl;exact rfl;exact rfl;exact Q0 rfl;exact rfl;exact Q0 rfl)|(apply S_storeE;exact rfl;exact Q0 rfl;(iterate 3 exact rfl))|apply S_callI (f:=56)|apply c0|exact Qa|apply Q3|(apply View.pure;exact Q4.out)|exact OwnC.out|exact ownB_nil|(apply ownB_boxM;(· (apply mlen;first|exact rfl|assumption|exact Nat.le_of_ble_eq_true rfl|omega|(simp [Q1];done)|(simp [Q1];omega)));exact OwnEC.out)|exact Q0 rfl|exact Ql|(apply Qg;exact Q0 rfl)|exact Q5 rfl rfl|assumption|exact rfl|fail)
  refine U7 (j + 1) (Sub.trans (sub_cat (env:=[(0,blkAS l),(3,.sl 0 0 (l.map blkA).length (l.map blkA).length),(4,.int .i64 (j + 1:Nat))])
   (bx':=[(0,some ⟨blksN 1 2 (l.take j)++.agg [.sl 1 ((l.take j).map blkBy).flatten.length w.head.parent.length w.head.parent.length,.int .i64 w.head.height,.int .i64 w.head.time,.int .i64 w.head.zeros,.sl 4 0 w.head.root.length w.head.root.length,.int .i64 w.head.nonce,.sl 6 0 w.events.length w.events.length]::List.replicate ((l.map blkA).length - (j + 1)) blkZ,7,false,false⟩),(2,some ⟨outsB 1 0 (l.take j),1,true,false⟩),(4,some ⟨bA w.head.root,1,false,false⟩),(5,some ⟨bA w.events.flatten,1,true,false⟩),(6,some ⟨Yb 5 0 (w.events.map List.length),1,false,false⟩)])
   1 3 (Nat.zero_le _) (by decide) rfl rfl (catX_pure (Yi _)) (catX_pure (Yi _)) (by repeat' (first|exact catE_nil|(apply catE_cons;exact rfl)|(apply Cat.pure;(first|exact Q4.out|exact Qe.out|assumption))|(apply Cat.sl0;decide)|(apply Cat.ptr0;decide)|apply cat_agg|exact catL_nil|apply Jy)) (catB_cons (by decide) (by decide) rfl (?_) (catB_cons (by decide) (by decide) rfl (outsB_cat (by omega)) (catB_cons (by decide) (by decide) rfl (catX_pure (Yi _)) (catB_cons (by decide) (by decide) rfl (catX_pure (Yi _)) (catB_cons (by decide) (by decide) rfl (outsN_cat0 5 (by decide) _ _) (catB_nil)))))) hf0 rfl)
   (Sub.trans (sub_cat (env:=[(0,blkAS l),(3,.sl 0 0 (l.map blkA).length (l.map blkA).length),(4,.int .i64 (j + 1:Nat))])
   (bx':=[(0,some ⟨blksN 1 2 (l.take j)++.agg [.sl 1 ((l.take j).map blkBy).flatten.length w.head.parent.length w.head.parent.length,.int .i64 w.head.height,.int .i64 w.head.time,.int .i64 w.head.zeros,.sl 1 (((l.take j).map blkBy).flatten.length + w.head.parent.length) w.head.root.length w.head.root.length,.int .i64 w.head.nonce,.sl 6 0 w.events.length w.events.length]::List.replicate ((l.map blkA).length - (j + 1)) blkZ,7,false,false⟩),(2,some ⟨outsB 1 0 (l.take j),1,true,false⟩),(5,some ⟨bA w.events.flatten,1,true,false⟩),(6,some ⟨Yb 5 0 (w.events.map List.length),1,false,false⟩)])
   1 4 (Nat.zero_le _) (by decide) rfl rfl (catX_pure (Yi _)) (catX_pure (Yi _)) (by repeat' (first|exact catE_nil|(apply catE_cons;exact rfl)|(apply Cat.pure;(first|exact Q4.out|exact Qe.out|assumption))|(apply Cat.sl0;decide)|(apply Cat.ptr0;decide)|apply cat_agg|exact catL_nil|apply Jy)) (catB_cons (by decide) (by decide) rfl (?_) (catB_cons (by decide) (by decide) rfl (outsB_cat (by omega)) (catB_cons (by decide) (by decide) rfl (catX_pure (Yi _)) (catB_cons (by decide) (by decide) rfl (outsN_cat0 5 (by decide) _ _) (catB_nil))))) hf1 rfl)
   (Sub.trans (sub_cat (env:=[(0,blkAS l),(3,.sl 0 0 (l.map blkA).length (l.map blkA).length),(4,.int .i64 (j + 1:Nat))])
   (bx':=[(0,some ⟨blksN 1 2 (l.take j)++.agg [.sl 1 ((l.take j).map blkBy).flatten.length w.head.parent.length w.head.parent.length,.int .i64 w.head.height,.int .i64 w.head.time,.int .i64 w.head.zeros,.sl 1 (((l.take j).map blkBy).flatten.length + w.head.parent.length) w.head.root.length w.head.root.length,.int .i64 w.head.nonce,.sl 6 0 w.events.length w.events.length]::List.replicate ((l.map blkA).length - (j + 1)) blkZ,7,false,false⟩),(2,some ⟨outsB 1 0 (l.take j),1,true,false⟩),(6,some ⟨Yb 1 (((l.take j).map blkBy).flatten.length + w.head.parent.length + w.head.root.length + 0) (w.events.map List.length),1,false,false⟩)])
   1 5 (Nat.zero_le _) (by decide) rfl rfl (catX_pure (Yi _)) (catX_pure (Yi _)) (by repeat' (first|exact catE_nil|(apply catE_cons;exact rfl)|(apply Cat.pure;(first|exact Q4.out|exact Qe.out|assumption))|(apply Cat.sl0;decide)|(apply Cat.ptr0;decide)|apply cat_agg|exact catL_nil|apply Jy)) (catB_cons (by decide) (by decide) rfl (?_) (catB_cons (by decide) (by decide) rfl (outsB_cat (by omega)) (catB_cons (by decide) (by decide) rfl (?_) (catB_nil)))) hf2 rfl)
   (sub_catD (bx':=[(1,some ⟨bA ((l.take (j + 1)).map blkBy).flatten,1,true,false⟩),(0,some ⟨blksN 1 2 (l.take (j + 1))++List.replicate ((l.map blkA).length - (j + 1)) blkZ,7,false,false⟩)])
   2 6 (Nat.zero_le _) (by decide) rfl rfl outsB_cat0 (outsN_cat0 1 (by decide) _ _) (by repeat' (first|exact catE_nil|(apply catE_cons;exact rfl)|(apply Cat.pure;(first|exact Q4.out|exact Qe.out|assumption))|(apply Cat.sl0;decide)|(apply Cat.ptr0;decide)|apply cat_agg|exact catL_nil|apply Jy)) (catB_cons (by decide) (by decide) rfl (catX_pure (Yi _)) (catB_cons (by decide) (by decide) rfl (?_) (catB_nil))) hQ rfl (by repeat' (first|exact lowE_nil|apply Ye|exact Low.sl _ _ _ _ (by decide)|exact Low.ptr _ _ _ (by decide)|(apply Low.pure;(first|exact Q4.out|exact Qe.out|assumption))|exact J0|apply Qq|apply U3|apply U2)) ?_ rfl (Nat.zero_le _))))) (by omega) (by omega)
  ·first|exact hset ▸ catX_app (blks_cat (by omega)) (catX_cons (Jy (.sl2 _ _ _ _ (by omega)) (Jy (.pure (Qb _ _)) (Jy (.pure (Qb _ _)) (Jy (.pure (Qb _ _)) (Jy (.sl0 _ _ _ _ (by decide)) (Jy (.pure (Qb _ _)) (Jy (.sl0 _ _ _ _ (by decide)) catL_nil))))))) (catX_pure (pureB_blkZ _)))|(rw [hset];exact catX_app (blks_cat (by omega)) (catX_cons (Jy (.sl2 _ _ _ _ (by omega)) (Jy (.pure (Qb _ _)) (Jy (.pure (Qb _ _)) (Jy (.pure (Qb _ _)) (Jy (.sl0 _ _ _ _ (by decide)) (Jy (.pure (Qb _ _)) (Jy (.sl0 _ _ _ _ (by decide)) catL_nil))))))) (catX_pure (pureB_blkZ _))))
  ·exact catX_app (blks_cat (by omega)) (catX_cons (Jy (.sl1 _ _ _ (by omega)) (Jy (.pure (Qb _ _)) (Jy (.pure (Qb _ _)) (Jy (.pure (Qb _ _)) (Jy (.sl2 _ _ _ _ (by omega)) (Jy (.pure (Qb _ _)) (Jy (.sl0 _ _ _ _ (by decide)) catL_nil))))))) (catX_pure (pureB_blkZ _)))
  ·exact catX_app (blks_cat (by omega)) (catX_cons (Jy (.sl1 _ _ _ (by omega)) (Jy (.pure (Qb _ _)) (Jy (.pure (Qb _ _)) (Jy (.pure (Qb _ _)) (Jy (.sl1 _ _ _ (by omega)) (Jy (.pure (Qb _ _)) (Jy (.sl0 _ _ _ _ (by decide)) catL_nil))))))) (catX_pure (pureB_blkZ _)))
  ·rw [hM2];exact outsN_catM _ _
  ·rw [hB,List.append_assoc]
   exact catX_app (blks_cat2 (by omega)) (catX_cons (Jy (.sl0 _ _ _ _ (by decide)) (Jy (.pure (Qb _ _)) (Jy (.pure (Qb _ _)) (Jy (.pure (Qb _ _)) (Jy (.sl0 _ _ _ _ (by decide)) (Jy (.pure (Qb _ _)) (Jy (.sl2 _ _ _ _ (by omega)) catL_nil))))))) (catX_pure (pureB_blkZ _)))
  ·exact J1 (lw_outsB _ _ _ (by decide)) (J1 (Uf.low (Yi _) _) (J1 (lowX_app (lw_blks _ _ _ (by decide) (by decide)) (Uf.low (pureB_blkZ _) _)) Jc))
 ·have hc:decide ((j:Int) < ((l.map blkA).length:Int)) = false:=by simp only [decide_eq_false_iff_not];omega
  obtain rfl:j = l.length:=by omega
  have e1:l.take l.length = l:=List.take_length
  have e2:(l.map blkA).length - l.length = 0:=by omega
  rw [e1,e2,List.replicate_zero,List.append_nil]
  repeat' (first|refine Qh ?_|refine Q9 ?_|refine Ua ?_|refine Jt ?_|refine Jo ?_|refine Q8 Qc ?_|refine Qi ?_|refine Qu ?_|refine Un ?_|(apply J9;exact rfl;(· (first|assumption|exact rfl)))|apply Qd|apply Q2|apply Jd|(apply Qp;exact rfl;exact Q0 rfl)|exact Q0 rfl|exact rfl|fail)
  rw [hl]
  (apply E_U0 [(0,1),(1,2),(2,0)]<;>repeat' (first|exact J4|(apply J3;exact rfl)|(apply Qx;(iterate 6 exact rfl))|(apply J5;(iterate 4 exact rfl);(· (first|assumption|exact rfl)))|exact Ren.sl _ _ _ _|(apply Ub;(· first|exact rfl|omega);(· first|exact rfl|assumption|(simp [Q1];done)|(simp [Q1];omega));(· first|exact rfl|assumption|(simp [Q1];done)|(simp [Q1];omega)))|exact Ren.ptr _ _ _|exact Qf|apply Q7|(apply Ren.pure;exact Q4.out)|apply Qm|apply Qv|exact Low.sl _ _ _ _ (by decide)|exact Low.ptr _ _ _ (by decide)|exact J0|apply Qq|(apply Low.pure;exact Q4.out)|apply U3|apply U2|exact Ji|(apply Jx;exact rfl;(· first|exact rfl|assumption|(simp [bA];done));exact Q6.out)|(apply Jh;exact rfl)|exact Jc|apply J1|(apply Uf.low;exact Q6.out)|apply Ju|exact Jv|(apply Yg;exact rfl)|exact Ud|apply Jz|apply lowX_cons|exact U6 _ _ _ _|exact outsN_low _ _ _ (by decide)|apply rn_vlds|apply rn_hds|apply rn_blks|apply rn_outsB|(apply lw_vlds<;>decide)|(apply lw_hds<;>decide)|(apply lw_blks<;>decide)|(apply lw_outsB<;>decide)|exact rfl))
theorem toBlks_cr (l:List Blk) (h:Y9 BlkW l<=1048576) (N:Nat):CR Tryz.prog 10 [blkAS l] [] N (Is (.sl (N + 2) 0 l.length l.length) [(N,some ⟨bA (l.map blkBy).flatten,1,true,false⟩),(N + 1,some ⟨outsB N 0 l,1,true,false⟩),(N + 2,some ⟨blksN N (N + 1) l,7,false,false⟩)] (N + 3)) :=
 CR.allN (toBlks_cr0 l h) N (by first|exact Q4.out|exact Qe.out|assumption) (by repeat' (first|exact Ren.sl _ _ _ _|exact Ren.ptr _ _ _|exact Qf|apply Q7|(apply Ren.pure;(first|exact Q4.out|exact Qe.out|assumption))|apply Qm|apply Qv)) (by repeat' (first|exact Jn|(apply Ja;exact rfl;(· (exact Q6.out)))|(apply Jm;exact rfl)|exact Qf|apply Q7|exact Ren.sl _ _ _ _|exact Ren.ptr _ _ _|(apply Ren.pure;(first|exact Q4.out|exact Qe.out|assumption))|apply Qm|(apply Um;exact rfl)|exact U6 _ _ _ _|apply rn_vlds|apply rn_hds|apply rn_blks|apply rn_outsB))
/-! marks -/
def RowOk (L:Nat) (x:AV):Prop:=∃ o m:Nat,x = .sl 0 o m m/\o + m<=L
def putS (s:List UInt8×Int) (x:AV):List UInt8×Int:=match x with
 | .sl _ o m _=>(putB s.1 o m s.2,s.2 + (m:Int))
 | _=>s
def putRs (Q:List AV) (s:List UInt8×Int):List UInt8×Int:=Q.foldl putS s
theorem putRs_ok {L:Nat} (hL:L<=1048576):∀ (Q:List AV) (s:List UInt8×Int),(∀ x∈Q,RowOk L x)->s.1.length = L->(putRs Q s).1.length = L/\s.2<=(putRs Q s).2/\(putRs Q s).2<=s.2 + Q.length * 1048576
 | [],s,_,h=>⟨h,Int.le_refl _,by simp [putRs]⟩
 | x::Q,s,hx,h=>by
   obtain ⟨o,m,rfl,hm⟩:=hx x (by simp)
   have:=putRs_ok hL Q (putB s.1 o m s.2,s.2 + (m:Int)) (λ y hy=>hx y (by simp [hy])) (by rw [putB_length (by omega)];exact h)
   have e:putRs (.sl 0 o m m::Q) s = putRs Q (putB s.1 o m s.2,s.2 + (m:Int)):=rfl
   rw [e,List.length_cons]
   simp only at this
   omega
theorem putRs_snoc (Q:List AV) (s:List UInt8×Int) (o m:Nat):putRs (Q++[.sl 0 o m m]) s = (putB (putRs Q s).1 o m (putRs Q s).2,(putRs Q s).2 + (m:Int)):=by
 unfold putRs
 rw [List.foldl_append]
 rfl
theorem rowsOk_ren {ρ:Nat->Nat} {L:Nat} (h0:ρ 0 = 0):∀ {Q:List AV},(∀ x∈Q,RowOk L x)->RenEL ρ Q Q
 | [],_=>Ud
 | x::Q,h=>by
   obtain ⟨o,m,rfl,_⟩:=h x (by simp)
   have e:RenL ρ [.sl 0 o m m] [.sl (ρ 0) o m m]:=Q7 (.sl _ _ _ _) Qf
   rw [h0] at e
   exact Jz e (rowsOk_ren h0 λ y hy=>h y (by simp [hy]))
theorem rowsOk_low {L N:Nat} {Q:List AV} (hN:0 < N) (h:∀ x∈Q,RowOk L x):LowX N Q:=λ x hx y hy=>by
 obtain ⟨o,m,rfl,_⟩:=h x hx
 simp only [AV.cells,List.mem_singleton] at hy
 subst hy
 exact .sl _ _ _ _ hN
theorem markRowsP_cr (D:List UInt8) (Q:List AV) (q e:Nat) (k:Int) (sl sl':Bool) (hs:∀ x∈Q,RowOk D.length x) (hq:q + e<=Q.length) (he:e<=1048576) (hD:D.length<=1048576) (h0:0<=k) (h1:k<=100000000000000000) :
  CR Tryz.prog 23 [.sl 1 q e e,.int .i64 k] [(0,some ⟨bA D,1,sl,false⟩),(1,some ⟨Q,1,sl',false⟩)] 3
   (Is (.int .i64 (putRs ((Q.drop q).take e) (D,k)).2) [(0,some ⟨bA (putRs ((Q.drop q).take e) (D,k)).1,1,sl,false⟩),(1,some ⟨Q,1,sl',false⟩)] 3):=by
 refine Us Qc Tryz.func23 (by kernel_rfl) rfl 19 rfl (by simp) [.tmp 4] rfl ?_
 intro w0 ok0 wr φ0
 repeat' (first|refine Qh ?_|refine Q9 ?_|refine Q8 Qc ?_|refine Qi ?_|refine Qo ?_|apply Q2|exact Q0 rfl|exact rfl|fail)
 refine Js (α:=Nat) (λ j=>⟨[(0,.sl 1 q e e),(1,.int .i64 (putRs ((Q.drop q).take j) (D,k)).2),(5,.int .i64 j)],[(0,some ⟨bA (putRs ((Q.drop q).take j) (D,k)).1,1,sl,false⟩),(1,some ⟨Q,1,sl',false⟩)],3⟩)
  (λ j=>e - j) (λ j=>j<=e) 0 ((Jp (by repeat' (first|exact Qy|refine Qr rfl ?_)) (by repeat' (first|exact Qz|refine Qt (by first|rfl|exact congrArg (λ l=>some (Box.mk l _ _ _)) hset) ?_)) (Nat.le_refl _))).sub (by omega) ?_
 intro j hj
 by_cases hjl:j < e
 ·have hc:decide ((j:Int) < (e:Int)) = true:=by simp only [decide_eq_true_eq];omega
  have hw1:IntKind.wrap .i64 ((j:Int) + 1) = ((j + 1:Nat):Int):=by rw [wrap_i64 (by omega) (by omega)];omega
  obtain ⟨y,hy⟩:∃ y,Q[q + j]? = some y:=⟨_,List.getElem?_eq_getElem (by omega)⟩
  obtain ⟨o,m,rfl,hom⟩:=hs y (List.mem_of_getElem? hy)
  have hE:Q[q + ((j:Int)).toNat]? = some (.sl 0 o m m):=by rw [Int.toNat_natCast];exact hy
  have htk:(Q.drop q).take (j + 1) = (Q.drop q).take j++[.sl 0 o m m]:=by rw [List.take_add_one,List.getElem?_drop,hy];rfl
  have hok:=putRs_ok hD ((Q.drop q).take j) (D,k) (λ x hx=>hs x (List.mem_of_mem_drop (List.mem_of_mem_take hx))) rfl
  have hlen:((Q.drop q).take j).length = j:=by rw [List.length_take,List.length_drop];omega
  rw [hlen] at hok
  have hnext:=putRs_snoc ((Q.drop q).take j) (D,k) o m
  rw [<-htk] at hnext
  generalize putRs ((Q.drop q).take j) (D,k) = s at *
  obtain ⟨D',k'⟩:=s
  simp only at hok hnext ⊢
  have c0:=λ (id N:Nat) (hid:id < N)=>markPart_at D' o m k' sl (by omega) (by omega) (by omega) (by omega) id N hid
  repeat' (first|refine Qh ?_|refine Q9 ?_|refine U9 ?_|refine Q8 Qc ?_|refine Qi ?_|refine Qw ?_|refine Qo ?_|(apply M_loadP;exact rfl;exact Q0 rfl;exact rfl;(· (repeat' (first|assumption|apply get_set_same)));exact rfl;(· (first|exact ⟨rfl,rfl⟩|exact ⟨rfl,trivial⟩|assumption)))|(apply Jf;exact rfl;(· (first|assumption|exact rfl)))|apply Qd|apply Q2|apply Jd|apply Y7|(apply S_len_sl;exact rfl;exact Q0 rfl)|(apply S_idxSl;exact rfl;exact rfl;exact Q0 rfl;exact rfl;exact Q0 rfl)|(apply S_callL ([0]) (f:=62);(· repeat' (first|exact Ql|exact Q0 rfl|apply Qg));exact rfl;(· (apply c0)<;>first|assumption|decide|omega))|exact Q0 rfl|assumption|(refine ⟨?_,?_⟩<;>omega)|exact rfl|fail)
  exact U7 (j + 1) (by rw [hnext];exact ((Jp (by repeat' (first|exact Qy|refine Qr rfl ?_)) (by repeat' (first|exact Qz|refine Qt (by first|rfl|exact congrArg (λ l=>some (Box.mk l _ _ _)) hset) ?_)) (Nat.le_refl _))).sub) (by omega) (by omega)
 ·have hc:decide ((j:Int) < (e:Int)) = false:=by simp only [decide_eq_false_iff_not];omega
  obtain rfl:j = e:=by omega
  repeat' (first|refine Qh ?_|refine Q9 ?_|refine Ua ?_|refine Jt ?_|refine Jo ?_|refine Q8 Qc ?_|refine Qi ?_|refine Qu ?_|refine Un ?_|(apply J9;exact rfl;(· (first|assumption|exact rfl)))|apply Qd|apply Q2|apply Jd|(apply S_len_sl;exact rfl;exact Q0 rfl)|exact Q0 rfl|exact rfl|fail)
  (apply E_U0 [(0,0),(1,1)]<;>repeat' (first|exact J4|(apply J3;exact rfl)|(apply Qx;(iterate 6 exact rfl))|(apply J5;(iterate 4 exact rfl);(· (first|assumption|exact rfl)))|exact Ren.sl _ _ _ _|(apply Ub;(· first|exact rfl|omega);(· first|exact rfl|assumption|(simp [Q1];done)|(simp [Q1];omega));(· first|exact rfl|assumption|(simp [Q1];done)|(simp [Q1];omega)))|exact Ren.ptr _ _ _|exact Qf|apply Q7|(apply Ren.pure;exact Q4.out)|apply Qm|apply Qv|exact Low.sl _ _ _ _ (by decide)|exact Low.ptr _ _ _ (by decide)|exact J0|apply Qq|(apply Low.pure;exact Q4.out)|apply U3|apply U2|exact Ji|(apply Jx;exact rfl;(· first|exact rfl|assumption|(simp [bA];done));exact Q6.out)|(apply Jh;exact rfl)|exact Jc|apply J1|(apply Uf.low;exact Q6.out)|apply Ju|exact Jv|(apply Yg;exact rfl)|exact Ud|apply Jz|apply lowX_cons|exact U6 _ _ _ _|exact outsN_low _ _ _ (by decide)|apply rn_vlds|apply rn_hds|apply rn_blks|apply rn_outsB|(apply lw_vlds<;>decide)|(apply lw_hds<;>decide)|(apply lw_blks<;>decide)|(apply lw_outsB<;>decide)|exact rfl))
  ·exact rowsOk_ren rfl hs
  ·exact rowsOk_low (by decide) hs
def BlkOk (L M e:Nat) (x:AV):Prop:=∃ (o m o' m' q:Nat) (a b c d:Int),x = .agg [.sl 0 o m m,.int .i64 a,.int .i64 b,.int .i64 c,.sl 0 o' m' m',.int .i64 d,.sl 1 q e e]/\o + m<=L/\o' + m'<=L/\q + e<=M
theorem sum_take_succ (E:List Nat) (j:Nat):(E.take (j + 1)).sum = (E.take j).sum + E.getD j 0:=by
 rw [List.take_add_one,List.getD_eq_getElem?_getD]
 cases E[j]?<;>simp
theorem sum_take_le (E:List Nat) (j:Nat):(E.take j).sum<=E.sum:=take_sum_le E j
theorem markBlks_cp (n:Nat) (E:List Nat) (D:List UInt8) (Q H:List AV) (k:Int) (sl sl' sl2:Bool) (hH:H.length = n) (hQ:∀ x∈Q,RowOk D.length x) (hs:∀ i y,H[i]? = some y->BlkOk D.length Q.length (E.getD i 0) y) (hE:E.sum<=1048576) (hn:n<=1048576) (hD:D.length<=1048576) (h0:0<=k) (h1:k<=1000000000000000) :
  CR Tryz.prog 14 [.sl 2 0 n n,.int .i64 k] [(0,some ⟨bA D,1,sl,false⟩),(1,some ⟨Q,1,sl',false⟩),(2,some ⟨H,7,sl2,false⟩)] 3 (λ r _ _=>∃ k':Int,r = .int .i64 k'/\k<=k'/\k'<=k + 8796093022208):=by
 refine CR_intro Qc Tryz.func14 (by kernel_rfl) rfl 68 rfl (by simp) [.tmp 4] rfl ?_
 intro w0 ok0 wr φ0
 repeat' (first|refine Qh ?_|refine Q9 ?_|refine Q8 Qc ?_|refine Qi ?_|refine Qo ?_|apply Q2|exact Q0 rfl|exact rfl|fail)
 refine Js (α:=Nat×Int×List UInt8×List AV) (λ x=>⟨[(0,.sl 2 0 n n),(1,.int .i64 x.2.1),(5,.int .i64 x.1)],[(0,some ⟨bA x.2.2.1,1,sl,false⟩),(1,some ⟨Q,1,sl',false⟩),(2,some ⟨x.2.2.2,7,sl2,false⟩)],3⟩)
  (λ x=>n - x.1) (λ x=>x.1<=n/\x.2.2.1.length = D.length/\x.2.2.2.length = n/\(∀ i y,x.2.2.2[i]? = some y->BlkOk D.length Q.length (E.getD i 0) y)/\k<=x.2.1/\x.2.1<=k + x.1 * 4194304 + (E.take x.1).sum * 1048576) (0,k,D,H) ((Jp (by repeat' (first|exact Qy|refine Qr rfl ?_)) (by repeat' (first|exact Qz|refine Qt (by first|rfl|exact congrArg (λ l=>some (Box.mk l _ _ _)) hset) ?_)) (Nat.le_refl _))).sub ⟨Nat.zero_le _,rfl,hH,hs,Int.le_refl _,by simp⟩ ?_
 rintro ⟨j,q,D',H'⟩ ⟨hj,hD',hH',hs',hq1,hq2⟩
 simp only at hj hD' hH' hs' hq1 hq2 ⊢
 have hEj:=sum_take_le E j
 by_cases hjl:j < n
 ·have hc:decide ((j:Int) < (n:Int)) = true:=by simp only [decide_eq_true_eq];omega
  have hw1:IntKind.wrap .i64 ((j:Int) + 1) = ((j + 1:Nat):Int):=by rw [wrap_i64 (by omega) (by omega)];omega
  obtain ⟨y,hy⟩:∃ y,H'[j]? = some y:=⟨_,List.getElem?_eq_getElem (by omega)⟩
  have hEs:=sum_take_succ E j
  have hEj2:=sum_take_le E (j + 1)
  have hbk:=hs' j y hy
  have fin0:∀ z,BlkOk D.length Q.length (E.getD j 0) z->∀ L:List AV,(∀ i y,L[i]? = some y->BlkOk D.length Q.length (E.getD i 0) y)->∀ i y,(L.set (0 + ((j:Int)).toNat) z)[i]? = some y->BlkOk D.length Q.length (E.getD i 0) y:=by
   intro z hz L hL i y h
   rw [Nat.zero_add,Int.toNat_natCast,List.getElem?_set] at h
   split at h
   ·rename_i hij
    subst hij
    split at h
    ·obtain rfl:=Option.some.inj h;exact hz
    ·cases h
   ·exact hL i y h
  generalize E.getD j 0 = e at *
  obtain ⟨o,m,o',m',t,a,b,c,d,rfl,hom,hom',ht⟩:=hbk
  have hE1:H'[0 + ((j:Int)).toNat]? = some (.agg [.sl 0 o m m,.int .i64 a,.int .i64 b,.int .i64 c,.sl 0 o' m' m',.int .i64 d,.sl 1 t e e]):=by rw [Nat.zero_add,Int.toNat_natCast];exact hy
  have hpl:(putB D' o m q).length = D.length:=by rw [putB_length (by omega)];exact hD'
  have c0:=λ (id N:Nat) (hid:id < N)=>markPart_at D' o m q sl (by omega) (by omega) (by omega) (by omega) id N hid
  have c1:=λ (id N:Nat) (hid:id < N)=>markPart_at (putB D' o m q) o' m' (q + (m:Int) + 1 + 1 + 1) sl (by omega) (by omega) (by omega) (by omega) id N hid
  have hpl2:(putB (putB D' o m q) o' m' (q + (m:Int) + 1 + 1 + 1)).length = D.length:=by rw [putB_length (by omega)];exact hpl
  generalize hD2:putB (putB D' o m q) o' m' (q + (m:Int) + 1 + 1 + 1) = D2 at *
  have c2:=markRowsP_cr D2 Q t e (q + (m:Int) + 1 + 1 + 1 + (m':Int) + 1) sl sl' (by rw [hpl2];exact hQ) ht (by omega) (by omega) (by omega) (by omega)
  have hok:=putRs_ok hD ((Q.drop t).take e) (D2,q + (m:Int) + 1 + 1 + 1 + (m':Int) + 1) (λ x hx=>hQ x (List.mem_of_mem_drop (List.mem_of_mem_take hx))) hpl2
  have hlen:((Q.drop t).take e).length = e:=by rw [List.length_take,List.length_drop];omega
  rw [hlen] at hok
  generalize putRs ((Q.drop t).take e) (D2,q + (m:Int) + 1 + 1 + 1 + (m':Int) + 1) = s at *
  obtain ⟨D3,k3⟩:=s
  simp only at hok c2
  have v1:IntKind.wrap .i64 (q + (m:Int)) = q + (m:Int):=wrap_i64 (by omega) (by omega)
  have v2:IntKind.wrap .i64 (q + (m:Int) + 1) = q + (m:Int) + 1:=wrap_i64 (by omega) (by omega)
  have v3:IntKind.wrap .i64 (q + (m:Int) + 1 + 1) = q + (m:Int) + 1 + 1:=wrap_i64 (by omega) (by omega)
  have v4:IntKind.wrap .i64 (q + (m:Int) + 1 + 1 + 1) = q + (m:Int) + 1 + 1 + 1:=wrap_i64 (by omega) (by omega)
  have v5:IntKind.wrap .i64 (q + (m:Int) + 1 + 1 + 1 + (m':Int)) = q + (m:Int) + 1 + 1 + 1 + (m':Int):=wrap_i64 (by omega) (by omega)
  have v6:IntKind.wrap .i64 (q + (m:Int) + 1 + 1 + 1 + (m':Int) + 1) = q + (m:Int) + 1 + 1 + 1 + (m':Int) + 1:=wrap_i64 (by omega) (by omega)
  have fin:∀ a b c d:Int,BlkOk D.length Q.length e (.agg [.sl 0 o m m,.int .i64 a,.int .i64 b,.int .i64 c,.sl 0 o' m' m',.int .i64 d,.sl 1 t e e]):=λ a b c d=>⟨o,m,o',m',t,a,b,c,d,rfl,hom,hom',ht⟩
  repeat' (first|refine Qh ?_|refine Q9 ?_|refine U9 ?_|refine Q8 Qc ?_|refine Qi ?_|refine Qw ?_|refine Qo ?_|(apply M_loadP;exact rfl;exact Q0 rfl;exact rfl;(· (repeat' (first|assumption|apply get_set_same)));exact rfl;(· (first|exact ⟨rfl,rfl⟩|exact ⟨rfl,trivial⟩|assumption)))|(apply M_storeP;exact rfl;exact Q0 rfl;exact rfl;(· (repeat' (first|assumption|apply get_set_same)));(iterate 3 exact rfl);exact Q0 rfl;exact rfl;exact rfl;(· (repeat' constructor)))|(apply Jf;exact rfl;(· (first|assumption|exact rfl)))|apply Qd|apply Q2|(apply J6;(iterate 4 exact rfl);exact Q0 rfl)|apply Jd|apply Y7|(apply S_len_sl;exact rfl;exact Q0 rfl)|(apply S_idxSl;exact rfl;exact rfl;exact Q0 rfl;exact rfl;exact Q0 rfl)|(apply S_callL ([0]) (f:=62);(· repeat' (first|exact Ql|exact Q0 rfl|apply Qg));exact rfl;(· (apply c0)<;>first|assumption|decide|omega))|(apply S_callL ([0]) (f:=62);(· repeat' (first|exact Ql|exact Q0 rfl|apply Qg));exact rfl;(· (apply c1)<;>first|assumption|decide|omega))|(apply S_callL ([0,1]) (f:=23);(· repeat' (first|exact Ql|exact Q0 rfl|apply Qg));exact rfl;(· (apply c2)<;>first|assumption|decide|omega))|exact Q0 rfl|assumption|(refine ⟨?_,?_⟩<;>omega)|exact rfl|fail)
  refine U7 (j + 1,k3,D3,
   (((H'.set (0 + ((j:Int)).toNat) (.agg [.sl 0 o m m,.int .i64 (q + (m:Int)),.int .i64 b,.int .i64 c,.sl 0 o' m' m',.int .i64 d,.sl 1 t e e])).set (0 + ((j:Int)).toNat) (.agg [.sl 0 o m m,.int .i64 (q + (m:Int)),.int .i64 (q + (m:Int) + 1),.int .i64 c,.sl 0 o' m' m',.int .i64 d,.sl 1 t e e])).set (0 + ((j:Int)).toNat) (.agg [.sl 0 o m m,.int .i64 (q + (m:Int)),.int .i64 (q + (m:Int) + 1),.int .i64 (q + (m:Int) + 1 + 1),.sl 0 o' m' m',.int .i64 d,.sl 1 t e e])).set (0 + ((j:Int)).toNat) (.agg [.sl 0 o m m,.int .i64 (q + (m:Int)),.int .i64 (q + (m:Int) + 1),.int .i64 (q + (m:Int) + 1 + 1),.sl 0 o' m' m',.int .i64 (q + (m:Int) + 1 + 1 + 1 + (m':Int)),.sl 1 t e e])) ((Jp (by repeat' (first|exact Qy|refine Qr rfl ?_)) (by repeat' (first|exact Qz|refine Qt (by first|rfl|exact congrArg (λ l=>some (Box.mk l _ _ _)) hset) ?_)) (Nat.le_refl _))).sub ⟨by omega,hok.1,by simpa using hH',fin0 _ (fin _ _ _ _) _ (fin0 _ (fin _ _ _ _) _ (fin0 _ (fin _ _ _ _) _ (fin0 _ (fin _ _ _ _) _ hs'))),by dsimp only;omega,by dsimp only;omega⟩ (by dsimp only;omega)
 ·have hc:decide ((j:Int) < (n:Int)) = false:=by simp only [decide_eq_false_iff_not];omega
  obtain rfl:j = n:=by omega
  repeat' (first|refine Qh ?_|refine Q9 ?_|refine Ua ?_|refine Jt ?_|refine Jo ?_|refine Q8 Qc ?_|refine Qi ?_|refine Qu ?_|refine Un ?_|(apply J9;exact rfl;(· (first|assumption|exact rfl)))|apply Qd|apply Q2|apply Jd|(apply S_len_sl;exact rfl;exact Q0 rfl)|exact Q0 rfl|exact rfl|fail)
  (apply E_Ex;(· repeat' (first|exact J4|(apply J3;exact rfl)|(apply Qx;(iterate 6 exact rfl))|(apply J5;(iterate 4 exact rfl);(· (first|assumption|exact rfl)))|exact rfl));exact ⟨_,rfl,by omega,by omega⟩)
theorem part_sum {α:Type} (w:α->Nat) {l:List α} {i:Nat} {x:α} (h:l[i]? = some x):((l.take i).map w).sum + w x<=(l.map w).sum:=by
 have h1:(l.map w)[i]? = some (w x):=by rw [List.getElem?_map,h];rfl
 have h2:=take_sum h1
 have h3:=take_sum_le (l.map w) (i + 1)
 rw [List.map_take]
 omega
theorem blks_ok (l:List Blk):∀ i y,(blksN 0 1 l)[i]? = some y->BlkOk (l.map blkBy).flatten.length (outsB 0 0 l).length ((l.map blkW2).getD i 0) y:=by
 intro i y hy
 have hs:=blks_sum1 l
 have hq:=outsB_length 0 0 l
 obtain ⟨x,h1,rfl⟩:=laidN_get _ _ _ _ _ hy
 have e:(l.map blkW2).getD i 0 = x.events.length:=by rw [List.getD_eq_getElem?_getD,List.getElem?_map,h1];rfl
 have h3:=part_sum blkW1 h1
 have h5:=part_sum blkW2 h1
 have f1:blkW1 x = x.head.parent.length + x.head.root.length + x.events.flatten.length:=rfl
 have f2:blkW2 x = x.events.length:=rfl
 rw [e]
 generalize ((l.take i).map blkW1).sum = c at *
 generalize ((l.take i).map blkW2).sum = d at *
 exact ⟨0 + c,x.head.parent.length,0 + c + x.head.parent.length,x.head.root.length,0 + d,_,_,_,_,rfl,by omega,by omega,by omega⟩
theorem rows_ok (l:List Blk):∀ x∈outsB 0 0 l,RowOk (l.map blkBy).flatten.length x:=λ x hx=>by
 obtain ⟨o,n,e,h⟩:=outsB_mem hx
 rw [Nat.zero_add,blks_sum1] at h
 exact ⟨o,n,e,h⟩
theorem blks_le {l:List Blk} (h:Y9 BlkW l<=1048576):(l.map blkBy).flatten.length<=1048576/\(l.map blkW2).sum<=1048576/\l.length<=1048576:=by
 rw [<-blks_sum1]
 have h1:∀ l:List Blk,(l.map blkW1).sum + (l.map blkW2).sum<=(l.map BlkW).sum:=by
  intro l
  induction l with
  | nil=>exact Nat.le_refl _
  | cons x l ih =>
    simp only [List.map_cons,List.sum_cons]
    have:blkW1 x + blkW2 x<=BlkW x:=by
     unfold blkW1 blkW2 BlkW HdW Y9 sumW
     rw [List.length_flatten]
     omega
    omega
 have:=h1 l
 unfold Y9 sumW at h
 omega
theorem markBlks_at (l:List Blk) (k:Int) (sl sl' sl2:Bool) (h:Y9 BlkW l<=1048576) (h0:0<=k) (h1:k<=1000000000000000) (i j m N:Nat) (hi:i < N) (hj:j < N) (hm:m < N) (hij:i≠j) (him:i≠m) (hjm:j≠m) :
  CR Tryz.prog 14 [.sl m 0 l.length l.length,.int .i64 k] [(i,some ⟨bA (l.map blkBy).flatten,1,sl,false⟩),(j,some ⟨outsB i 0 l,1,sl',false⟩),(m,some ⟨blksN i j l,7,sl2,false⟩)] N (Spent k (k + 8796093022208) N) :=
 (CR.spentI (CR.spend (markBlks_cp l.length (l.map blkW2) (l.map blkBy).flatten (outsB 0 0 l) (blksN 0 1 l) k sl sl' sl2 (blksN_length _ _ _) (rows_ok l) (blks_ok l) (blks_le h).2.1 (blks_le h).2.2 (blks_le h).1 h0 h1) (λ r b n h=>h) h0) [i,j,m] rfl (by simp [*]<;>omega) _ (by simp [*]<;>omega) (by repeat' (first|exact Ren.sl _ _ _ _|exact Ren.ptr _ _ _|exact Qf|apply Q7|(apply Ren.pure;exact Q4.out)|apply Qm|apply Qv|exact Jn|(apply Ja;exact rfl;exact Q6.out)|(apply Jm;exact rfl)|(apply Um;exact rfl)|exact Ud|apply Jz|exact U6 _ _ _ _|apply rn_vlds|apply rn_hds|apply rn_blks|apply rn_outsB)) (by repeat' (first|exact Ren.sl _ _ _ _|exact Ren.ptr _ _ _|exact Qf|apply Q7|(apply Ren.pure;exact Q4.out)|apply Qm|apply Qv|exact Jn|(apply Ja;exact rfl;exact Q6.out)|(apply Jm;exact rfl)|(apply Um;exact rfl)|exact Ud|apply Jz|exact U6 _ _ _ _|apply rn_vlds|apply rn_hds|apply rn_blks|apply rn_outsB)))
end Go.Proofs.YtaolmfgpebncjaaGreat
