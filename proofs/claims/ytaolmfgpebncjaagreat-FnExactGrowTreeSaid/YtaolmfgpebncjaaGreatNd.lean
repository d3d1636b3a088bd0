/- Rows, validators and trusts laid anew in boxes; and marked. -/
import Derived.Test.YtaolmfgpebncjaaGreatNq
import Derived.Test.YtaolmfgpebncjaaGreatNs
import Derived.Test.YtaolmfgpebncjaaGreatNt
import Derived.Test.YtaolmfgpebncjaaGreatGj
import Derived.Test.YtaolmfgpebncjaaGreatGk
import Derived.Test.YtaolmfgpebncjaaGreatRa
import Derived.Test.YtaolmfgpebncjaaGreatGi
import Derived.Test.YtaolmfgpebncjaaGreatNa
import Derived.Test.YtaolmfgpebncjaaGreatXj
set_option maxRecDepth 100000
set_option maxHeartbeats 3200000
set_option linter.unusedSimpArgs false
set_option linter.unusedVariables false
namespace Go.Proofs.YtaolmfgpebncjaaGreat
open Go.Av
attribute [local irreducible] T thenQ Uv Y0 Uz WX retV retR Gt Gts GtsP Qs CV CR Av.Pure
attribute [local irreducible] sha Y1 U1 Y8 Yh hdD zerosN rootL withN
theorem implGrow_cv (tr:List Blk) (p time:Int) (ev:List (List UInt8)) (tries:Int) (hl:tr.length<=1048576) (he:∀ b∈tr,b.events.length<=1048576) (hv:Y9 List.length ev<=1048576) :
  CV Tryz.prog 20 [blkAS tr,.int .i64 p,.int .i64 time,Y2 ev,.int .i64 tries] (· = blkResA (gwCode tr p time ev tries) (gwOut tr p time ev tries)):=by
 by_cases hc:gwCode tr p time ev tries = 0
 ·have hO:gwOut tr p time ev tries = ⟨(gwOut tr p time ev tries).head,ev⟩:=by unfold gwOut;rw [if_pos hc]
  rw [hc]
  refine (implGrow_cr tr p time ev tries hl he hv hc 0).toCV λ r bs n ⟨e1,e2,e3⟩=>?_
  subst e1 e2
  rw [hO]
  generalize (gwOut tr p time ev tries).head = x
  exact Uh ⟨.pure (Qb _ _),view_slA rfl (Q1 _).symm (Yi _),.pure (Qb _ _),.pure (Qb _ _),.pure (Qb _ _),view_slA rfl (Q1 _).symm (Yi _),.pure (Qb _ _),view_rowsR rfl rfl ⟨rfl⟩,trivial⟩
 ·rw [gw_zeroOut hc]
  exact implGrow_bad tr p time ev tries hl he (by unfold Y9 at hv;omega) hc
theorem flat_le {n:Nat}:∀ {ws:List (List UInt8)},(∀ w∈ws,w.length<=n)->ws.flatten.length<=ws.length * n
 | [],_=>by simp
 | w::ws,h=>by
   have h1:=h w List.mem_cons_self
   have h2:=flat_le (ws:=ws) λ x hx=>h x (List.mem_cons_of_mem _ hx)
   rw [List.flatten_cons,List.length_append,List.length_cons,Nat.succ_mul]
   omega
theorem gwOut_ok {tr:List Blk} {p time:Int} {ev:List (List UInt8)} {tries:Int} (hc:gwCode tr p time ev tries = 0) :
  ∃ x:Hd,gwOut tr p time ev tries = ⟨x,ev⟩/\Jw x = 0/\ev.length<=8/\ev.flatten.length<=480:=by
 obtain ⟨g,a1,a2,b3,a4,a5,a6,a7⟩:=gw_zero hc
 have hmr:=mineH_range (U1 tr p.toNat time ev) a5.1
 have hf:=withN_fault (gw_fault (tr:=tr) (p:=p.toNat) (time:=time) (ev:=ev) g (by omega) a4) (n:=Y8 (U1 tr p.toNat time ev) tries) ⟨a6,by omega⟩
 have hfw:=few_len b3
 have h8:=flat_le (n:=60) (ws:=ev) λ w hw=>hfw.2 w hw
 refine ⟨_,if_pos hc,hf,hfw.1,by have:=hfw.1;omega⟩
end Go.Proofs.YtaolmfgpebncjaaGreat
set_option maxRecDepth 100000
set_option maxHeartbeats 3200000
set_option linter.unusedSimpArgs false
set_option linter.unusedVariables false
namespace Go.Proofs.YtaolmfgpebncjaaGreat
open Go.Av
attribute [local irreducible] T thenQ Uv Y0 Uz WX retV retR Gt Gts GtsP Qs CV CR Av.Pure
structure Vld where
 key:List UInt8
 power:Int
 deriving DecidableEq
abbrev Vld0:Vld:=⟨[],0⟩
abbrev vldA (x:Vld):AV:=.agg [byA x.key,.int .i64 x.power]
abbrev vldAC (x:Vld):List AV:=[byA x.key,.int .i64 x.power]
instance:ElemF vldA:=⟨λ a y hy=>by
 have h:=(inferInstance:CellsC (vldAC a)).out y hy
 exact h⟩
abbrev vldAS (l:List Vld):AV:=.ls 2 true false (l.map vldA)
def VldW (x:Vld):Nat:=x.key.length
def VldR (x:Vld):Prop:=x.key.length<=9223372036854775807
structure HdB where
 height:Int
 time:Int
 root:List UInt8
 set:List UInt8
 next:List UInt8
 deriving DecidableEq
abbrev HdB0:HdB:=⟨0,0,[],[],[]⟩
abbrev hdbA (x:HdB):AV:=.agg [.int .i64 x.height,.int .i64 x.time,byA x.root,byA x.set,byA x.next]
abbrev hdbAC (x:HdB):List AV:=[.int .i64 x.height,.int .i64 x.time,byA x.root,byA x.set,byA x.next]
instance:ElemF hdbA:=⟨λ a y hy=>by
 have h:=(inferInstance:CellsC (hdbAC a)).out y hy
 exact h⟩
abbrev hdbAS (l:List HdB):AV:=.ls 5 true false (l.map hdbA)
def HdBW (x:HdB):Nat:=x.root.length + x.set.length + x.next.length
def HdBR (x:HdB):Prop:=x.root.length<=9223372036854775807/\x.set.length<=9223372036854775807/\x.next.length<=9223372036854775807
end Go.Proofs.YtaolmfgpebncjaaGreat
set_option maxRecDepth 100000
set_option maxHeartbeats 3200000
set_option linter.unusedSimpArgs false
set_option linter.unusedVariables false
namespace Go.Proofs.YtaolmfgpebncjaaGreat
open Go.Av
attribute [local irreducible] T thenQ Uv Y0 Uz WX retV retR Gt Gts GtsP Qs CV CR Av.Pure
structure Tru where
 head:HdB
 next:List Vld
 period:Int
 paused:Bool
 roots:List (List UInt8)
 frm:Int
 deriving DecidableEq
abbrev Tru0:Tru:=⟨⟨0,0,[],[],[]⟩,[],0,false,[],0⟩
abbrev truA (x:Tru):AV:=.agg [.int .i64 x.head.height,.int .i64 x.head.time,byA x.head.root,byA x.head.set,byA x.head.next,vldAS x.next,.int .i64 x.period,.bool x.paused,Y2 x.roots,.int .i64 x.frm]
abbrev truAC (x:Tru):List AV:=[.int .i64 x.head.height,.int .i64 x.head.time,byA x.head.root,byA x.head.set,byA x.head.next,vldAS x.next,.int .i64 x.period,.bool x.paused,Y2 x.roots,.int .i64 x.frm]
instance:ElemF truA:=⟨λ a y hy=>by
 have h:=(inferInstance:CellsC (truAC a)).out y hy
 exact h⟩
abbrev truAS (l:List Tru):AV:=.ls 10 true false (l.map truA)
def TruW (x:Tru):Nat:=HdBW x.head + Y9 VldW x.next + Y9 List.length x.roots
def TruR (x:Tru):Prop:=HdBR x.head/\listR VldR x.next/\rowsR x.roots
end Go.Proofs.YtaolmfgpebncjaaGreat
set_option maxRecDepth 100000
set_option maxHeartbeats 3200000
set_option linter.unusedSimpArgs false
set_option linter.unusedVariables false
namespace Go.Proofs.YtaolmfgpebncjaaGreat
open Go.Av
attribute [local irreducible] T thenQ Uv Y0 Uz WX retV retR Gt Gts GtsP Qs CV CR Av.Pure
abbrev nilS:AV:=.ls 0 true true []
theorem pureB_nilS (n:Nat):Uf (List.replicate n nilS):=λ x hx=>by
 obtain ⟨_,rfl⟩:=List.mem_replicate.1 hx
 exact ⟨show PureAll [nilS] from Qe.out,rfl⟩
theorem set_here {A:List AV} {z x:AV} {n j:Nat} (h:A.length = j) (hn:j < n):(A++List.replicate (n - j) z).set (0 + ((j:Int)).toNat) x = A++x::List.replicate (n - (j + 1)) z:=by
 rw [Nat.zero_add,Int.toNat_natCast,List.set_append_right _ _ (by omega),h,Nat.sub_self,show n - j = (n - (j + 1)) + 1 by omega,List.replicate_succ,List.set_cons_zero]
theorem toRows_cr0 (rows:List (List UInt8)) (h:Y9 List.length rows<=1048576):CR Tryz.prog 19 [Y2 rows] [] 0 (Is (.sl (0 + 1) 0 rows.length rows.length) [(0,some ⟨bA rows.flatten,1,true,false⟩),(0 + 1,some ⟨Yb 0 0 (rows.map List.length),1,false,false⟩)] (0 + 2)):=by
 refine Us Qc Tryz.func19 (by kernel_rfl) rfl 23 rfl (by simp) [.tmp 2] rfl ?_
 intro w0 ok0 wr φ0
 have hl:(rows.map byA).length = rows.length:=by simp
 have hn:rows.length<=1048576:=by unfold Y9 at h;omega
 repeat' (first|refine Qh ?_|refine Q9 ?_|refine Q8 Qc ?_|refine Qi ?_|refine Qo ?_|apply Qd|apply Q2|(apply Qp;exact rfl;exact Q0 rfl)|(apply S_make;exact rfl;exact rfl;exact Q0 rfl;exact Q0 rfl;exact rfl;(· (first|assumption|omega));(· (first|assumption|omega|(dsimp only;omega)|(simp;omega)));(· (first|assumption|omega|(dsimp only;omega)|(simp;omega)));(· (first|assumption|omega|(dsimp only;omega)|(simp;omega)));(· (first|exact Q5 rfl rfl|assumption));(· (first|exact Nat.le_of_ble_eq_true rfl|omega|decide)))|exact Q0 rfl|exact rfl|fail)
 refine Js (α:=Nat) (λ j=>⟨[(0,Y2 rows),(3,.sl 0 0 (rows.map byA).length (rows.map byA).length),(4,.int .i64 j)],
   [(1,some ⟨bA (rows.take j).flatten,1,true,false⟩),(0,some ⟨Yb 1 0 ((rows.take j).map List.length)++List.replicate ((rows.map byA).length - j) nilS,1,false,false⟩)],2⟩)
  (λ j=>rows.length - j) (λ j=>j<=rows.length) 0 (sub_up 1 (by repeat' (first|exact upE_nil|(apply upE_cons;exact rfl;exact Up.refl _)))) (by omega) ?_
 intro j hj
 by_cases hjl:j < rows.length
 ·have hc:decide ((j:Int) < ((rows.map byA).length:Int)) = true:=by simp only [decide_eq_true_eq];omega
  have g1:=Uy byA rows [] (k:=j) hjl
  have hw1:IntKind.wrap .i64 ((j:Int) + 1) = ((j + 1:Nat):Int):=by rw [wrap_i64 (by omega) (by omega)];omega
  have hmem:rows.getD j []∈rows:=by rw [List.getD_eq_getElem?_getD,List.getElem?_eq_getElem hjl];exact List.getElem_mem hjl
  have hwl:=listW_mem List.length rows hmem
  have htk:rows.take (j + 1) = rows.take j++[rows.getD j []]:=by rw [List.take_add_one,List.getD_eq_getElem?_getD,List.getElem?_eq_getElem hjl];rfl
  have hfl:bA (rows.take j).flatten++bA (rows.getD j []) = bA (rows.take (j + 1)).flatten:=by rw [htk];simp [bA]
  have hns:(rows.take (j + 1)).map List.length = (rows.take j).map List.length++[(rows.getD j []).length]:=by rw [htk];simp
  have hM:(bA (rows.take j).flatten).length = 0 + ((rows.take j).map List.length).sum:=by rw [Q1,List.length_flatten,Nat.zero_add]
  have c0:=λ N=>toByteS_cr (rows.getD j []) (by omega) N
  have hol:(Yb 1 0 ((rows.take j).map List.length)).length = j:=by rw [outsN_length,List.length_map,List.length_take];omega
  generalize rows.getD j [] = w at *
  have hset:=set_here (x:=.sl 2 0 w.length w.length) (z:=nilS) (n:=(rows.map byA).length) hol (by omega)
  have hin:0 + ((j:Int)).toNat < (Yb 1 0 ((rows.take j).map List.length)++List.replicate ((rows.map byA).length - j) nilS).length:=by
   simp only [List.length_append,List.length_replicate,hol];omega
  have i1:(0:Int)<=(j:Int)/\(j:Int) < ((rows.map byA).length:Int):=by omega
  repeat' (first|refine Qh ?_|refine Q9 ?_|refine U9 ?_|refine Q8 Qc ?_|refine Qi ?_|refine Qw ?_|refine Qo ?_|(apply Jf;exact rfl;(· (first|assumption|exact rfl)))|apply Qd|apply Q2|(apply Ue;exact rfl;exact Q0 rfl;exact rfl;(· (first|exact ⟨rfl,rfl⟩|exact ⟨rfl,trivial⟩|assumption)))|apply Jd|apply Y7|(apply Qp;exact rfl;exact Q0 rfl)|(apply Jk;exact rfl;exact rfl;exact Q0 rfl;exact Q0 rfl)|(apply S_idxSl;exact rfl;exact rfl;exact Q0 rfl;exact rfl;exact Q0 rfl)|(apply S_storeE;exact rfl;exact Q0 rfl;(iterate 3 exact rfl))|apply S_callI (f:=30)|apply c0|exact Qa|apply Q3|(apply View.pure;exact Q4.out)|exact OwnC.out|exact ownB_nil|(apply ownB_boxM;(· (apply mlen;first|exact rfl|assumption|exact Nat.le_of_ble_eq_true rfl|omega|(simp [Q1];done)|(simp [Q1];omega)));exact OwnEC.out)|exact Q0 rfl|exact Ql|(apply Qg;exact Q0 rfl)|exact Q5 rfl rfl|assumption|exact rfl|fail)
  refine U7 (j + 1) (sub_catD (bx':=[(0,some ⟨Yb 1 0 ((rows.take (j + 1)).map List.length)++List.replicate ((rows.map byA).length - (j + 1)) nilS,1,false,false⟩)]) 1 2 (Nat.zero_le _) (by decide) rfl rfl (catX_pure (Yi _)) (catX_pure (Yi _)) (by repeat' (first|exact catE_nil|(apply catE_cons;exact rfl)|(apply Cat.pure;(first|exact Q4.out|exact Qe.out|assumption))|(apply Cat.sl0;decide)|(apply Cat.ptr0;decide)|apply cat_agg|exact catL_nil|apply Jy)) (catB_cons (by decide) (by decide) rfl ?_ catB_nil) hfl rfl (by repeat' (first|exact lowE_nil|apply Ye|exact Low.sl _ _ _ _ (by decide)|exact Low.ptr _ _ _ (by decide)|(apply Low.pure;(first|exact Q4.out|exact Qe.out|assumption))|exact J0|apply Qq|apply U3|apply U2)) ?_ rfl (Nat.zero_le _)) (by omega) (by omega)
  ·rw [hns]
   first|exact hset ▸ outsN_catZ hM (pureB_nilS _)|(rw [hset];exact outsN_catZ hM (pureB_nilS _))
  ·exact J1 (Uf.low (Yi _) _) (J1 (lowX_app (outsN_low _ _ _ (by decide)) (Uf.low (pureB_nilS _) _)) Jc)
 ·have hc:decide ((j:Int) < ((rows.map byA).length:Int)) = false:=by simp only [decide_eq_false_iff_not];omega
  obtain rfl:j = rows.length:=by omega
  have e1:rows.take rows.length = rows:=List.take_length
  have e2:(rows.map byA).length - rows.length = 0:=by omega
  rw [e1,e2,List.replicate_zero,List.append_nil]
  repeat' (first|refine Qh ?_|refine Q9 ?_|refine Ua ?_|refine Jt ?_|refine Jo ?_|refine Q8 Qc ?_|refine Qi ?_|refine Qu ?_|refine Un ?_|(apply J9;exact rfl;(· (first|assumption|exact rfl)))|apply Qd|apply Q2|apply Jd|(apply Qp;exact rfl;exact Q0 rfl)|exact Q0 rfl|exact rfl|fail)
  rw [hl]
  (apply E_U0 [(0,1),(1,0)]<;>repeat' (first|exact J4|(apply J3;exact rfl)|(apply Qx;(iterate 6 exact rfl))|(apply J5;(iterate 4 exact rfl);(· (first|assumption|exact rfl)))|exact Ren.sl _ _ _ _|(apply Ub;(· first|exact rfl|omega);(· first|exact rfl|assumption|(simp [Q1];done)|(simp [Q1];omega));(· first|exact rfl|assumption|(simp [Q1];done)|(simp [Q1];omega)))|exact Ren.ptr _ _ _|exact Qf|apply Q7|(apply Ren.pure;exact Q4.out)|apply Qm|apply Qv|exact Low.sl _ _ _ _ (by decide)|exact Low.ptr _ _ _ (by decide)|exact J0|apply Qq|(apply Low.pure;exact Q4.out)|apply U3|apply U2|exact Ji|(apply Jx;exact rfl;(· first|exact rfl|assumption|(simp [bA];done));exact Q6.out)|(apply Jh;exact rfl)|exact Jc|apply J1|(apply Uf.low;exact Q6.out)|apply Ju|exact Jv|(apply Yg;exact rfl)|exact Ud|apply Jz|apply lowX_cons|exact U6 _ _ _ _|exact outsN_low _ _ _ (by decide)|exact rfl))
theorem toRows_cr (rows:List (List UInt8)) (h:Y9 List.length rows<=1048576) (N:Nat):CR Tryz.prog 19 [Y2 rows] [] N (Is (.sl (N + 1) 0 rows.length rows.length) [(N,some ⟨bA rows.flatten,1,true,false⟩),(N + 1,some ⟨Yb N 0 (rows.map List.length),1,false,false⟩)] (N + 2)) :=
 CR.allN (toRows_cr0 rows h) N (by first|exact Q4.out|exact Qe.out|assumption) (by repeat' (first|exact Ren.sl _ _ _ _|exact Ren.ptr _ _ _|exact Qf|apply Q7|(apply Ren.pure;(first|exact Q4.out|exact Qe.out|assumption))|apply Qm|apply Qv)) (by repeat' (first|exact Jn|(apply Ja;exact rfl;(· (exact Q6.out)))|(apply Jm;exact rfl)|exact Qf|apply Q7|exact Ren.sl _ _ _ _|exact Ren.ptr _ _ _|(apply Ren.pure;(first|exact Q4.out|exact Qe.out|assumption))|apply Qm|(apply Um;exact rfl)|exact U6 _ _ _ _))
/-! validators -/
def vldN (r:Nat) (a _b:Nat) (v:Vld):AV:=.agg [.sl r a v.key.length v.key.length,.int .i64 v.power]
def vldsN (r:Nat) (l:List Vld):List AV:=laidN (λ v:Vld=>v.key.length) (λ _=>0) (vldN r) 0 0 l
abbrev vldZ:AV:=.agg [nilS,.int .i64 0]
theorem rn_vlds (ρ:Nat->Nat) (r:Nat) (l:List Vld):RenEL ρ (vldsN r l) (vldsN (ρ r) l):=by
 unfold vldsN;exact laidN_ren (λ a b x=>Q7 (.sl _ _ _ _) (Q7 (.pure (Qb _ _)) Qf)) 0 0 l
theorem lw_vlds {N:Nat} (r:Nat) (l:List Vld) (h:r < N):LowX N (vldsN r l):=by
 unfold vldsN;exact laidN_low (λ a b x=>Qq (.sl _ _ _ _ h) (Qq (.pure (Qb _ _)) J0)) 0 0 l
instance (r:Nat) (l:List Vld):OwnEC (vldsN r l):=⟨by unfold vldsN;refine laidN_own ?_ 0 0 l;exact λ a b x=>ownL_cons (own_sl _ _ _ _) (ownL_cons (flat_int _ _).own ownL_nil)⟩
def VldOk (L:Nat) (x:AV):Prop:=∃ (o m:Nat) (p:Int),x = .agg [.sl 0 o m m,.int .i64 p]/\o + m<=L
theorem markRows_sp (rows:List (List UInt8)) (k:Int) (sl sl':Bool) (hb:rows.flatten.length<=1048576) (hn:rows.length<=1048576) (h0:0<=k) (h1:k<=1000000000000000) :
  CR Tryz.prog 23 [.sl 1 0 rows.length rows.length,.int .i64 k] [(0,some ⟨bA rows.flatten,1,sl,false⟩),(1,some ⟨Yb 0 0 (rows.map List.length),1,sl',false⟩)] 2 (Spent k (k + 2199023255552) 2) :=
 CR.spend (markRows_cr rows k sl sl' (by omega) (by omega) h0 h1) (λ r b n ⟨e1,_,_⟩=>⟨_,e1,by omega,by omega⟩) h0
theorem markRowsX_at (rows:List (List UInt8)) (k:Int) (sl sl':Bool) (hb:rows.flatten.length<=1048576) (hn:rows.length<=1048576) (h0:0<=k) (h1:k<=1000000000000000) (i j N:Nat) (hi:i < N) (hj:j < N) (hij:i≠j) :
  CR Tryz.prog 23 [.sl j 0 rows.length rows.length,.int .i64 k] [(i,some ⟨bA rows.flatten,1,sl,false⟩),(j,some ⟨Yb i 0 (rows.map List.length),1,sl',false⟩)] N (Spent k (k + 2199023255552) N) :=
 (CR.spentI (markRows_sp rows k sl sl' hb hn h0 h1) [i,j] rfl (by simp [*]<;>omega) _ (by simp [*]<;>omega) (by repeat' (first|exact Ren.sl _ _ _ _|exact Ren.ptr _ _ _|exact Qf|apply Q7|(apply Ren.pure;exact Q4.out)|apply Qm|apply Qv|exact Jn|(apply Ja;exact rfl;exact Q6.out)|(apply Jm;exact rfl)|(apply Um;exact rfl)|exact Ud|apply Jz|exact U6 _ _ _ _|apply rn_vlds)) (by repeat' (first|exact Ren.sl _ _ _ _|exact Ren.ptr _ _ _|exact Qf|apply Q7|(apply Ren.pure;exact Q4.out)|apply Qm|apply Qv|exact Jn|(apply Ja;exact rfl;exact Q6.out)|(apply Jm;exact rfl)|(apply Um;exact rfl)|exact Ud|apply Jz|exact U6 _ _ _ _|apply rn_vlds)))
end Go.Proofs.YtaolmfgpebncjaaGreat
