/- Growing a tree: what grows, in boxes of its own. -/
import Derived.Test.YtaolmfgpebncjaaGreatNp
import Derived.Test.YtaolmfgpebncjaaGreatGj
import Derived.Test.YtaolmfgpebncjaaGreatGk
import Derived.Test.YtaolmfgpebncjaaGreatGl
set_option maxRecDepth 100000
set_option maxHeartbeats 3200000
set_option linter.unusedSimpArgs false
set_option linter.unusedVariables false
namespace Go.Proofs.YtaolmfgpebncjaaGreat
open Go.Av
attribute [local irreducible] T thenQ Uv Y0 Uz WX retV retR Gt Gts GtsP Qs CV CR Av.Pure
attribute [local irreducible] sha Y1 U1 Y8 Yh hdD zerosN rootL withN
theorem implGrow_cr0 (tr:List Blk) (p time:Int) (ev:List (List UInt8)) (tries:Int) (hl:tr.length<=1048576) (he:∀ b∈tr,b.events.length<=1048576) (hv:Y9 List.length ev<=1048576) (hc:gwCode tr p time ev tries = 0):CR Tryz.prog 20 [blkAS tr,.int .i64 p,.int .i64 time,Y2 ev,.int .i64 tries] [] 0 (Is (blkResB 0 (0 + 1) (0 + 3) 0 (gwOut tr p time ev tries))
   [(0,some ⟨bA (gwOut tr p time ev tries).head.parent,1,true,false⟩),(0 + 1,some ⟨bA (gwOut tr p time ev tries).head.root,1,true,false⟩),(0 + 2,some ⟨bA ev.flatten,1,true,false⟩),(0 + 3,some ⟨Yb (0 + 2) 0 (ev.map List.length),1,true,false⟩)] (0 + 4)):=by
 refine Us Qc Tryz.func20 (by kernel_rfl) rfl 98 rfl (by simp) [.cell 10 43] rfl ?_
 intro w0 ok0 wr φ0
 have hgo:gwOut tr p time ev tries = ⟨withN (U1 tr p.toNat time ev) (Y8 (U1 tr p.toNat time ev) tries),ev⟩:=if_pos hc
 rw [hgo]
 clear hgo
 have hv2:ev.length<=1048576:=by unfold Y9 at hv;omega
 obtain ⟨g,a1,a2,b3,a4,a5,a6,a7⟩:=gw_zero hc
 have c0:=treeFault_cv tr hl he
 rw [g] at c0
 obtain ⟨g1,g2,_,hJ⟩:=tree_zero g
 have d0:(!decide ((0:Int) = 0)) = false:=rfl
 have hml:(tr.map blkA).length = tr.length:=by simp
 have hw:IntKind.wrap .i64 (((tr.map blkA).length:Int) - 1) = ((tr.map blkA).length:Int) - 1:=wrap_i64 (by omega) (by omega)
 have c1:=headsOf_cv tr hl
 have hhl:=headsL_length tr
 have d1:(!(decide ((0:Int)<=p) && decide (p<=((tr.map blkA).length:Int) - 1))) = false:=by rw [decide_eq_true (by omega),decide_eq_true (by omega)];rfl
 have c2:=areEvents_cv ev hv2
 have d2:decide (((tr.map blkA).length:Int) = 24) = false:=decide_eq_false (by omega)
 rw [b3] at c2
 have d3:(!true) = false:=rfl
 obtain ⟨n,rfl⟩:∃ n:Nat,p = (n:Int):=⟨p.toNat,by omega⟩
 have hn:n < tr.length:=by omega
 have hen:((n:Int)).toNat = n:=Int.toNat_natCast n
 rw [hen] at a4 a6 a7 ⊢
 have hget:=Uy hdA (J2 tr) Hd0 (k:=n) (by omega)
 have hmh:((J2 tr).map hdA).length = tr.length:=by rw [List.length_map,hhl]
 have hin:(0:Int)<=(n:Int)/\(n:Int) < (((J2 tr).map hdA).length:Int):=by omega
 have hm:(J2 tr).getD n Hd0∈J2 tr:=getD_mem _ Hd0 (by omega)
 have hx0:=hJ.1 _ hm
 obtain ⟨_,k1,k2,_,_⟩:=hd_zero hx0
 have hgf:=gw_fault (tr:=tr) (p:=n) (time:=time) (ev:=ev) g hn a4
 have hht:=tree_height g n hn
 have hgw:U1 tr n time ev = ⟨hdD ((J2 tr).getD n Hd0),((J2 tr).getD n Hd0).height + 1,time,zerosN (chainL (J2 tr) n),rootL ev,0⟩:=by unfold U1;rfl
 have c3:=λ N=>hdDigest_cr ((J2 tr).getD n Hd0) hx0 N
 have c4:=chainTo_cv (J2 tr) n hJ (by omega) (by omega)
 have c5:=headsAt_cv (J2 tr) n (by omega) (by omega)
 have hcl:0 < (chainL (J2 tr) n).length:=by rw [chainL_length];exact wayD_pos _ _
 have hcl2:(chainL (J2 tr) n).length<=1000000:=by rw [chainL_length];have:=wayD_le (J2 tr) (i:=n) (by omega);omega
 have c6:=nextZeros_cv (chainL (J2 tr) n) hcl hcl2 (chain_ok hJ (by omega))
 have hfw:=few_len b3
 have c7:=λ N=>rootOf_cr ev (by omega) (λ w hw=>by have:=hfw.2 w hw;omega) N
 have hrl:=rootL_length ev
 have hdl:=hdD_length ((J2 tr).getD n Hd0)
 have hmr:=mineH_range (U1 tr n time ev) a5.1
 have c9:=joinFault_cv (J2 tr) (withN (U1 tr n time ev) (Y8 (U1 tr n time ev) tries)) hJ (withN_fault hgf ⟨a6,by omega⟩) (by omega)
 have d9:decide (joinF (J2 tr) (withN (U1 tr n time ev) (Y8 (U1 tr n time ev) tries)) = 7) = false:=by
  refine decide_eq_false λ k=>?_
  unfold joinF at k
  rw [if_neg (by omega)] at k
  split at k
  ·cases k
  ·split at k<;>cases k
 have c8:=λ (i j N:Nat) (hi:i < N) (hj:j < N) (hij:i≠j)=>mined_at (U1 tr n time ev) true tries hgf a5 i j N hi hj hij
 rw [decide_eq_true a6,if_pos a6] at c8
 have cc:=λ N=>clones_cr ev hv N
 have ew:withN (U1 tr n time ev) (Y8 (U1 tr n time ev) tries) = ⟨hdD ((J2 tr).getD n Hd0),((J2 tr).getD n Hd0).height + 1,time,zerosN (chainL (J2 tr) n),rootL ev,Y8 (U1 tr n time ev) tries⟩:=by unfold withN U1;rfl
 generalize Y8 (U1 tr n time ev) tries = mm at *
 rw [ew] at c8 c9 d9 ⊢
 rw [hgw] at c8
 generalize (J2 tr).getD n Hd0 = x at *
 have w1:IntKind.wrap .i64 (x.time + 1) = x.time + 1:=wrap_i64 (by omega) (by omega)
 have w2:IntKind.wrap .i64 (x.height + 1) = x.height + 1:=wrap_i64 (by omega) (by omega)
 have d4:(!(decide (x.time + 1<=time) && decide (time<=1099511627776))) = false:=by rw [decide_eq_true (by omega),decide_eq_true (by omega)];rfl
 have r5:=rng_t a5
 generalize joinF _ _ = jf at *
 generalize zerosN (chainL (J2 tr) n) = zz at *
 generalize rootL ev = rr at *
 generalize hdD x = dd at *
 simp only [hdB,boxH,blkResB,hrl,hdl] at c8 ⊢
 repeat' (first|refine Qh ?_|refine Q9 ?_|refine U9 ?_|refine Q8 Qc ?_|(apply T_drawA (id:=14) 23 [4,14,17,21,22] 21 Qc Uw;exact rfl;exact rfl;(· kernel_rfl);(· kernel_rfl);exact Nat.le_of_ble_eq_true rfl)|(apply T_drawQ (id:=19) 3 [2] Qc Uw;(iterate 3 exact rfl);(· kernel_rfl);(· kernel_rfl);exact Nat.le_of_ble_eq_true rfl)|refine Qi ?_|refine Qw ?_|refine Qu ?_|refine Qo ?_|(apply J9;exact rfl;(· (first|assumption|exact rfl)))|(apply S_gf;exact rfl;exact rfl;(· (first|assumption|exact rfl)))|apply Qd|apply Q2|(apply Uj;exact Q0 rfl;(· (first|assumption|exact rfl)))|(apply Yc;exact rfl;exact Q0 rfl;(iterate 6 exact rfl))|(apply Ue;exact rfl;exact Q0 rfl;exact rfl;(· (first|exact ⟨rfl,rfl⟩|exact ⟨rfl,trivial⟩|assumption)))|(apply Uo;exact rfl;exact Q0 rfl;exact rfl;exact rfl)|(apply S_fieldV;(iterate 4 exact rfl);exact Q0 rfl)|(apply S_eql;exact Q0 rfl;exact Q0 rfl)|(apply Y4;exact Q0 rfl;exact Q0 rfl)|apply Y7|apply S_sub|apply S_not|(apply Qp;exact rfl;exact Q0 rfl)|apply S_extract|apply U0|(apply Jg;exact rfl;exact Q0 rfl;(iterate 4 exact rfl))|(apply S_build;(iterate 3 exact rfl);(· (repeat' (first|exact gtsP_nil|exact Q0 rfl|apply gtsP_cons)));(· (repeat' (first|exact BuildR.nil _|(apply BuildR.cons;(iterate 4 exact rfl);(· (first|nofun|assumption));(· (repeat' constructor)))))))|(apply Jk;exact rfl;exact rfl;exact Q0 rfl;exact Q0 rfl)|(apply WTR_quiet;exact rfl;exact rfl)|(apply WTR_new;(iterate 4 exact rfl);(· first|exact Q5 rfl rfl|assumption);exact rfl;exact rfl)|(apply WTR_loud;exact rfl;exact rfl)|apply L_callI (f:=71)|apply L_callI (f:=72)|apply L_callI (f:=75)|(apply L_store1 Qc;exact rfl;exact Q0 rfl;(iterate 4 exact rfl);exact Q0 rfl;(· first|exact Q5 rfl rfl|assumption);exact rfl)|(apply L_callL ([1,2]) (f:=73);(· repeat' (first|exact Ql|exact Q0 rfl|apply Qg));exact rfl;(· (apply c8)<;>first|assumption|decide|omega))|apply Qk (f:=39)|apply c0|apply Jl (f:=59)|apply c1|apply Qk (f:=68)|apply c2|apply Jl (f:=58)|apply c4|apply Jl (f:=70)|apply c5|apply Qk (f:=69)|apply c6|apply c3|apply c7|apply Qk (f:=74)|apply c9|apply cc|apply Qk (f:=57)|apply in_cv|exact Qa|apply Q3|(apply View.pure;exact Q4.out)|(apply view_slM;exact rfl;(· (apply mlen;first|exact rfl|assumption|exact Nat.le_of_ble_eq_true rfl|omega|(simp [Q1];done)|(simp [Q1];omega)));exact Q6.out)|apply Uh|exact Jq.out|exact OwnC.out|exact ownB_nil|(apply ownB_boxM;(· (apply mlen;first|exact rfl|assumption|exact Nat.le_of_ble_eq_true rfl|omega|(simp [Q1];done)|(simp [Q1];omega)));exact OwnEC.out)|exact Qe.out|exact Q0 rfl|exact Ql|(apply Qg;exact Q0 rfl)|exact Q5 rfl rfl|assumption|exact rfl|fail)
 (apply E_U0 [(0,1),(1,2),(2,4),(3,5)]<;>repeat' (first|exact J4|(apply J3;exact rfl)|(apply Qx;(iterate 6 exact rfl))|(apply J5;(iterate 4 exact rfl);(· (first|assumption|exact rfl)))|exact Ren.sl _ _ _ _|(apply Ub;(· first|exact rfl|omega);(· first|exact rfl|assumption|(simp [Q1];done)|(simp [Q1];omega));(· first|exact rfl|assumption|(simp [Q1];done)|(simp [Q1];omega)))|exact Ren.ptr _ _ _|exact Qf|apply Q7|(apply Ren.pure;exact Q4.out)|apply Qm|apply Qv|exact Low.sl _ _ _ _ (by decide)|exact Low.ptr _ _ _ (by decide)|exact J0|apply Qq|(apply Low.pure;exact Q4.out)|apply U3|apply U2|exact Ji|(apply Jx;exact rfl;(· first|exact rfl|assumption|(simp [bA];done));exact Q6.out)|(apply Jh;exact rfl)|exact Jc|apply J1|(apply Uf.low;exact Q6.out)|apply Ju|exact Jv|(apply Yg;exact rfl)|exact Ud|apply Jz|apply lowX_cons|exact U6 _ _ _ _|exact outsN_low _ _ _ (by decide)|exact rfl))
theorem implGrow_cr (tr:List Blk) (p time:Int) (ev:List (List UInt8)) (tries:Int) (hl:tr.length<=1048576) (he:∀ b∈tr,b.events.length<=1048576) (hv:Y9 List.length ev<=1048576) (hc:gwCode tr p time ev tries = 0) (N:Nat):CR Tryz.prog 20 [blkAS tr,.int .i64 p,.int .i64 time,Y2 ev,.int .i64 tries] [] N (Is (blkResB N (N + 1) (N + 3) 0 (gwOut tr p time ev tries))
   [(N,some ⟨bA (gwOut tr p time ev tries).head.parent,1,true,false⟩),(N + 1,some ⟨bA (gwOut tr p time ev tries).head.root,1,true,false⟩),(N + 2,some ⟨bA ev.flatten,1,true,false⟩),(N + 3,some ⟨Yb (N + 2) 0 (ev.map List.length),1,true,false⟩)] (N + 4)) :=
 CR.allN (implGrow_cr0 tr p time ev tries hl he hv hc) N (by first|exact Q4.out|exact Qe.out|assumption) (by repeat' (first|exact Ren.sl _ _ _ _|exact Ren.ptr _ _ _|exact Qf|apply Q7|(apply Ren.pure;(first|exact Q4.out|exact Qe.out|assumption))|apply Qm|apply Qv)) (by repeat' (first|exact Jn|(apply Ja;exact rfl;(· (exact Q6.out)))|(apply Jm;exact rfl)|exact Qf|apply Q7|exact Ren.sl _ _ _ _|exact Ren.ptr _ _ _|(apply Ren.pure;(first|exact Q4.out|exact Qe.out|assumption))|apply Qm|(apply Um;exact rfl)|exact U6 _ _ _ _))
end Go.Proofs.YtaolmfgpebncjaaGreat
