/- The law of GrowTree. -/
import Derived.Test.YtaolmfgpebncjaaGreatZzj
import Derived.Test.YtaolmfgpebncjaaGreatWt
import Derived.Test.YtaolmfgpebncjaaGreatNd
import Derived.Test.YtaolmfgpebncjaaGreatNj
import Derived.Test.YtaolmfgpebncjaaGreatGj
import Derived.Test.YtaolmfgpebncjaaGreatGk
set_option maxRecDepth 100000
set_option maxHeartbeats 3200000
set_option linter.unusedSimpArgs false
set_option linter.unusedVariables false
namespace Go.Proofs.YtaolmfgpebncjaaGreat
open Go.Av
attribute [local irreducible] T thenQ Uv Y0 Uz WX retV retR Gt Gts GtsP Qs CV CR Av.Pure
attribute [local irreducible] sha zerosL lz8 hdD Jw zerosN hardF firstB wayD chainL bestUp wtL joinF fewB rootL parI Y1
def heavyV (tr:List Blk):Int:=if Y1 tr = 0 then (bestL (J2 tr):Int) else 0
end Go.Proofs.YtaolmfgpebncjaaGreat
set_option maxRecDepth 100000
set_option maxHeartbeats 3200000
set_option linter.unusedSimpArgs false
set_option linter.unusedVariables false
namespace Go.Proofs.YtaolmfgpebncjaaGreat
open Go.Av
attribute [local irreducible] T thenQ Uv Y0 Uz WX retV retR Gt Gts GtsP Qs CV CR Av.Pure
structure Ldg where
 kind:Int
 sent:Int
 settled:Int
 next:Int
 done:List Int
 cap:Int
 paused:Bool
 deriving DecidableEq
abbrev ldgA (l:Ldg):AV:=.agg [.int .i64 l.kind,.int .i64 l.sent,.int .i64 l.settled,.int .i64 l.next,sl1 (l.done.map numA),.int .i64 l.cap,.bool l.paused]
def heldBy (l:Ldg):Int:=if l.kind = 1 then l.sent - l.settled else l.settled - l.sent
def doneStep (q:List Int) (i:Nat):Int :=
 if ¬ (1<=q.getD i 0/\q.getD i 0<=1000000) then 1 else if 0 < i/\q.getD i 0<=q.getD (i - 1) 0 then 1 else 0
def doneGo (e:Int) (q:List Int):Nat->Nat->Int
 | 0,_=>e
 | n + 1,i=>if doneStep q i = 0 then doneGo e q n (i + 1) else doneStep q i
def ledgerFault (l:Ldg):Int :=
 if ¬ isKind l.kind then 1
 else if ¬ ((0<=l.sent/\l.sent<=1000000000000000)/\(0<=l.settled/\l.settled<=1000000000000000)/\(0<=l.cap/\l.cap<=1000000000000000)/\(1<=l.next/\l.next<=1000001)) then 3
 else if 60 < l.done.length then 2
 else doneGo (if 0<=heldBy l/\heldBy l<=l.cap then 0 else 1) l.done l.done.length 0
end Go.Proofs.YtaolmfgpebncjaaGreat
set_option maxRecDepth 100000
set_option maxHeartbeats 3200000
set_option linter.unusedSimpArgs false
set_option linter.unusedVariables false
namespace Go.Proofs.YtaolmfgpebncjaaGreat
open Go.Av
attribute [local irreducible] T thenQ Uv Y0 Uz WX retV retR Gt Gts GtsP Qs CV CR Av.Pure
abbrev intRes (f n:Int):AV:=.agg [.int .i64 f,.int .i64 n]
def heldVal (l:Ldg):Int:=if ledgerFault l = 0 then heldBy l else 0
end Go.Proofs.YtaolmfgpebncjaaGreat
set_option maxRecDepth 100000
set_option maxHeartbeats 3200000
set_option linter.unusedSimpArgs false
set_option linter.unusedVariables false
namespace Go.Proofs.YtaolmfgpebncjaaGreat
open Go.Av
attribute [local irreducible] T thenQ Uv Y0 Uz WX retV retR Gt Gts GtsP Qs CV CR Av.Pure
attribute [local irreducible] Y1 heavyV
theorem blk_events {tr:List Blk} (h:Y9 BlkW tr<=1048576):tr.length<=1048576/\∀ b∈tr,b.events.length<=1048576:=by
 refine ⟨by unfold Y9 at h;omega,λ b hb=>?_⟩
 have h1:BlkW b<=Y9 BlkW tr:=by have:=listW_mem BlkW tr hb;omega
 have h2:Y9 List.length b.events<=BlkW b:=by unfold BlkW;omega
 have h3:b.events.length<=Y9 List.length b.events:=by unfold Y9;omega
 omega
theorem isBlks {x:AV} (h:TyV ty 22 x):∃ l:List Blk,x = blkAS l/\listR BlkR l:=by
 obtain ⟨h1,h2⟩:=inv_leafs h (l:=[22]) rfl
 have h3:=h.2.2.2 ⟨_,rfl,rfl⟩
 obtain ⟨ei,xs,e1,rfl,e2,e3⟩:=h2 0 22 x rfl (by rw [h3];rfl)
 obtain rfl:=Option.some.inj e1
 obtain ⟨q,rfl,hq⟩:=list_ofP blkA (λ x hx=>elemBlock rfl hx) xs e3
 rw [List.length_map] at e2
 exact ⟨q,rfl,e2,hq⟩
end Go.Proofs.YtaolmfgpebncjaaGreat
set_option maxRecDepth 100000
set_option maxHeartbeats 3200000
set_option linter.unusedSimpArgs false
set_option linter.unusedVariables false
namespace Go.Proofs.YtaolmfgpebncjaaGreat
open Go.Av
attribute [local irreducible] T thenQ Uv Y0 Uz WX retV retR Gt Gts GtsP Qs CV CR Av.Pure
attribute [local irreducible] sha Y1 U1 Y8 Yh hdD zerosN rootL withN gwCode gwOut
theorem law_GrowTree (tr:List Blk) (p time:Int) (ev:List (List UInt8)) (tries:Int) (hx:listR BlkR tr) (hy:rowsR ev):CV Tryz.prog 4 [blkAS tr,.int .i64 p,.int .i64 time,Y2 ev,.int .i64 tries] (· = .bool true):=by
 refine J7 Qc Tryz.func4 (by kernel_rfl) rfl 107 rfl (by simp) [.tmp 10] rfl ?_
 intro w0 ok0
 have c0:=szBlockS_cv tr 1048576 hx (by decide) (by decide)
 by_cases g3:(1048576:Int) - (Y9 BlkW tr:Nat) < 0
 ·rw [szAfter_neg g3] at c0
  have d3:decide ((-1:Int) < 0) = true:=rfl
  repeat' (first|refine Qh ?_|refine Q9 ?_|refine J8 ?_|refine Q8 Qc ?_|refine Qi ?_|refine Qu ?_|(apply Jr;exact rfl;(· (repeat' (first|exact Qb _ _|exact Qj _|exact Qn _);done)))|(apply Jf;exact rfl;(· (first|assumption|exact rfl)))|apply Qd|apply Q2|apply Jd|apply Qk (f:=8)|apply c0|exact Qa|apply Q3|(apply View.pure;exact Q4.out)|exact Jq.out|exact Q0 rfl|exact Ql|(apply Qg;exact Q0 rfl)|assumption|exact rfl|fail)
 rw [szAfter_pos g3] at c0
 have d3:decide ((1048576:Int) - ((Y9 BlkW tr:Nat):Int) < 0) = false:=decide_eq_false g3
 have hW:Y9 BlkW tr<=1048576:=by omega
 have c01:=szByteSS_cv ev ((1048576:Int) - ((Y9 BlkW tr:Nat):Int)) hy (by omega) (by omega)
 by_cases g4:(1048576:Int) - ((Y9 BlkW tr:Nat):Int) - (Y9 List.length ev:Nat) < 0
 ·rw [szAfter_neg g4] at c01
  have d4:decide ((-1:Int) < 0) = true:=rfl
  repeat' (first|refine Qh ?_|refine Q9 ?_|refine J8 ?_|refine Q8 Qc ?_|refine Qi ?_|refine Qw ?_|refine Qu ?_|(apply Jr;exact rfl;(· (repeat' (first|exact Qb _ _|exact Qj _|exact Qn _);done)))|(apply Jf;exact rfl;(· (first|assumption|exact rfl)))|(apply J9;exact rfl;(· (first|assumption|exact rfl)))|apply Qd|apply Q2|apply Jd|apply Qk (f:=8)|apply c0|apply Qk (f:=17)|apply c01|exact Qa|apply Q3|(apply View.pure;exact Q4.out)|exact Jq.out|exact Q0 rfl|exact Ql|(apply Qg;exact Q0 rfl)|assumption|exact rfl|fail)
 rw [szAfter_pos g4] at c01
 have d4:decide ((1048576:Int) - ((Y9 BlkW tr:Nat):Int) - ((Y9 List.length ev:Nat):Int) < 0) = false:=decide_eq_false g4
 have hV:Y9 List.length ev<=1048576:=by omega
 have hVe:ev.length<=1048576/\ev.flatten.length<=1048576:=by
  unfold Y9 sumW at hV
  rw [List.length_flatten]
  omega
 obtain ⟨hl,he⟩:=blk_events hW
 have a1:=λ N=>toBlks_cr tr hW N
 have a2:=λ N=>toRows_cr ev hV N
 have a3:=specGrow_cv tr p time ev tries hl he hV
 have a5:=implGrow_cv tr p time ev tries hl he hV
 have c2:=eqBlockS_cv tr hW
 have c22:=eqByteSS_cv ev hV
 have c3:=λ (i j m N:Nat) (hi:i < N) (hj:j < N) (hm:m < N) (hij:i≠j) (him:i≠m) (hjm:j≠m)=>markBlks_at tr 1 true true false hW (by decide) (by decide) i j m N hi hj hm hij him hjm
 have c32:=λ (k:Int) (h0:0<=k) (h1:k<=1000000000000000) (i j N:Nat) (hi:i < N) (hj:j < N) (hij:i≠j)=>markRowsX_at ev k true false hVe.2 hVe.1 h0 h1 i j N hi hj hij
 have e7:(!true) = false:=rfl
 by_cases hc:gwCode tr p time ev tries = 0
 ·have a4:=λ N=>implGrow_cr tr p time ev tries hl he hV hc N
  obtain ⟨x,hO,hf,hn1,hn2⟩:=gwOut_ok hc
  rw [hc,hO] at a3 a5
  rw [hO] at a4
  obtain ⟨⟨hp,hr⟩,_⟩:=hd_zero hf
  have hBW:BlkW ⟨x,ev⟩<=1048576:=by
   unfold BlkW HdW Y9 sumW
   rw [List.length_flatten] at hn2
   dsimp only
   omega
  have c1:=eqBlockResult_cv 0 ⟨x,ev⟩ hBW
  have c4:=λ (i j p q N:Nat) (hn:[i,j,p,q].Nodup) (hl:∀ y∈[i,j,p,q],y < N)=>markBlockResult_at 0 ⟨x,ev⟩ 1 (by show x.parent.length<=_;omega) (by show x.root.length<=_;omega) (by show ev.flatten.length<=_;omega) (by show ev.length<=_;omega) (by decide) (by decide) i j p q N hn hl
  have c5:=heldBlockResult_cv 0 ⟨x,ev⟩ 1 (by show x.parent.length<=_;omega) (by show x.root.length<=_;omega) (by show ev.flatten.length<=_;omega) (by show ev.length<=_;omega) (by decide) (by decide)
  simp only [blkM,hdM] at c4 c5
  have e4:decide ((1:Int) + (x.parent.length:Int) + (x.root.length:Int) + (ev.flatten.length:Int) < 0) = false:=decide_eq_false (by omega)
  have e5:(!decide ((1:Int) + (x.parent.length:Int) + (x.root.length:Int) + (ev.flatten.length:Int) = 1 + (x.parent.length:Int) + (x.root.length:Int) + (ev.flatten.length:Int))) = false:=by rw [decide_eq_true rfl];rfl
  have m1:x.parent.length = (bA x.parent).length:=by rw [Q1]
  have m2:x.root.length = (bA x.root).length:=by rw [Q1]
  have m5:x.parent.length = (bA (Yf 1 x.parent.length)).length:=by rw [Q1,marksB_length]
  have m6:x.root.length = (bA (Yf (1 + (x.parent.length:Int)) x.root.length)).length:=by rw [Q1,marksB_length]
  have m7:ev.length = (marksR (1 + (x.parent.length:Int) + (x.root.length:Int)) ev).length:=by rw [marksR_length]
  repeat' (first|refine Qh ?_|refine Q9 ?_|refine Q8 Qc ?_|refine Qi ?_|refine Qw ?_|refine Qu ?_|(apply Jr;exact rfl;(· (repeat' (first|exact Qb _ _|exact Qj _|exact Qn _);done)))|(apply J9;exact rfl;(· (first|assumption|exact rfl)))|(apply S_gf;exact rfl;exact rfl;(· (first|assumption|exact rfl)))|apply Qd|apply Q2|(apply Uj;exact Q0 rfl;(· (first|assumption|exact rfl)))|(apply Yc;exact rfl;exact Q0 rfl;(iterate 6 exact rfl))|apply Jd|(apply Y4;exact Q0 rfl;exact Q0 rfl)|apply S_not|apply U0|(apply Jg;exact rfl;exact Q0 rfl;(iterate 4 exact rfl))|apply Qk (f:=8)|apply c0|apply Qk (f:=17)|apply c01|apply S_callI (f:=10)|apply a1|apply S_callI (f:=19)|apply a2|apply S_callW (f:=18)|apply a3|apply S_callI (f:=20)|apply a4|apply Qk (f:=21)|apply c1|apply Qk (f:=13)|apply c2|apply Qk (f:=22)|apply c22|(apply S_callX ([6,7,8]) (f:=14);(· repeat' (first|exact Ql|exact Q0 rfl|apply Qg));exact rfl;(· (apply c3)<;>first|assumption|decide|omega);exact rfl;(intro k9 hk1 hk2 hk3))|(apply S_callX ([9,10]) (f:=23);(· repeat' (first|exact Ql|exact Q0 rfl|apply Qg));exact rfl;(· (apply c32)<;>first|assumption|decide|omega);exact rfl;(intro k9 hk1 hk2 hk3))|(apply S_callL ([11,12,13,14]) (f:=24);(· repeat' (first|exact Ql|exact Q0 rfl|apply Qg));exact rfl;(· (apply c4)<;>first|assumption|decide|omega))|apply Qk (f:=25)|apply c5|exact Qa|apply Q3|exact viewE_pure Q6.out|apply view_lsV|(apply View.pure;exact Q4.out)|(apply view_slM;exact rfl;(· (apply mlen;first|exact rfl|assumption|exact Nat.le_of_ble_eq_true rfl|omega|(simp [Q1];done)|(simp [Q1];omega)));exact Q6.out)|apply Uh|exact Jq.out|exact OwnC.out|exact ownB_nil|(apply ownB_boxM;(· (apply mlen;first|exact rfl|assumption|exact Nat.le_of_ble_eq_true rfl|omega|(simp [Q1];done)|(simp [Q1];omega)));exact OwnEC.out)|exact Q0 rfl|exact Ql|(apply Qg;exact Q0 rfl)|exact Q5 rfl rfl|(apply view_rowsR;exact rfl;exact rfl;(· (apply mlen;first|exact rfl|assumption|exact Nat.le_of_ble_eq_true rfl|omega|(simp [Q1];done)|(simp [Q1];omega))))|(apply vx_blks;(iterate 3 exact rfl);(· (apply mlen;first|exact rfl|assumption|exact Nat.le_of_ble_eq_true rfl|omega|(simp [Q1];done)|(simp [Q1];omega))))|exact rfl|fail)
 ·rw [gw_zeroOut hc] at a3 a5
  generalize gwCode tr p time ev tries = cc at *
  have b3:CV Tryz.prog 18 [blkAS tr,.int .i64 p,.int .i64 time,Y2 ev,.int .i64 tries] (· = .agg [.int .i64 cc,.ls 1 true false [],.int .i64 0,.int .i64 0,.int .i64 0,.ls 1 true false [],.int .i64 0,.ls 1 true false []]):=a3
  have b5:CV Tryz.prog 20 [blkAS tr,.int .i64 p,.int .i64 time,Y2 ev,.int .i64 tries] (· = .agg [.int .i64 cc,.ls 1 true false [],.int .i64 0,.int .i64 0,.int .i64 0,.ls 1 true false [],.int .i64 0,.ls 1 true false []]):=a5
  have c1:CV Tryz.prog 21 [.agg [.int .i64 cc,.ls 1 true false [],.int .i64 0,.int .i64 0,.int .i64 0,.ls 1 true false [],.int .i64 0,.ls 1 true false []],.agg [.int .i64 cc,.ls 1 true false [],.int .i64 0,.int .i64 0,.int .i64 0,.ls 1 true false [],.int .i64 0,.ls 1 true false []]] (· = .bool true):=eqBlockResult_cv cc Blk0 (by decide)
  have c4:CV Tryz.prog 24 [.agg [.int .i64 cc,.ls 1 true false [],.int .i64 0,.int .i64 0,.int .i64 0,.ls 1 true false [],.int .i64 0,.ls 1 true false []],.int .i64 1] (· = .int .i64 1):=markBlockResult_nil cc 1
  have c5:CV Tryz.prog 25 [.agg [.int .i64 cc,.ls 1 true false [],.int .i64 0,.int .i64 0,.int .i64 0,.ls 1 true false [],.int .i64 0,.ls 1 true false []],.int .i64 1] (· = .int .i64 1):=heldBlockResult_cv cc Blk0 1 (by decide) (by decide) (by decide) (by decide) (by decide) (by decide)
  clear a3 a5
  have e4:decide ((1:Int) < 0) = false:=by decide
  have e5:(!decide ((1:Int) = 1)) = false:=by decide
  repeat' (first|refine Qh ?_|refine Q9 ?_|refine Q8 Qc ?_|refine Qi ?_|refine Qw ?_|refine Qu ?_|(apply Jr;exact rfl;(· (repeat' (first|exact Qb _ _|exact Qj _|exact Qn _);done)))|(apply J9;exact rfl;(· (first|assumption|exact rfl)))|(apply S_gf;exact rfl;exact rfl;(· (first|assumption|exact rfl)))|apply Qd|apply Q2|(apply Uj;exact Q0 rfl;(· (first|assumption|exact rfl)))|(apply Yc;exact rfl;exact Q0 rfl;(iterate 6 exact rfl))|apply Jd|(apply Y4;exact Q0 rfl;exact Q0 rfl)|apply S_not|apply U0|(apply Jg;exact rfl;exact Q0 rfl;(iterate 4 exact rfl))|apply Qk (f:=8)|apply c0|apply Qk (f:=17)|apply c01|apply S_callI (f:=10)|apply a1|apply S_callI (f:=19)|apply a2|apply S_callW (f:=18)|apply b3|apply Qk (f:=20)|apply b5|apply Qk (f:=21)|apply c1|apply Qk (f:=13)|apply c2|apply Qk (f:=22)|apply c22|(apply S_callX ([6,7,8]) (f:=14);(· repeat' (first|exact Ql|exact Q0 rfl|apply Qg));exact rfl;(· (apply c3)<;>first|assumption|decide|omega);exact rfl;(intro k9 hk1 hk2 hk3))|(apply S_callX ([9,10]) (f:=23);(· repeat' (first|exact Ql|exact Q0 rfl|apply Qg));exact rfl;(· (apply c32)<;>first|assumption|decide|omega);exact rfl;(intro k9 hk1 hk2 hk3))|apply Qk (f:=24)|apply c4|apply Qk (f:=25)|apply c5|exact Qa|apply Q3|exact viewE_pure Q6.out|apply view_lsV|(apply View.pure;exact Q4.out)|exact Jq.out|exact OwnC.out|exact ownB_nil|(apply ownB_boxM;(· (apply mlen;first|exact rfl|assumption|exact Nat.le_of_ble_eq_true rfl|omega|(simp [Q1];done)|(simp [Q1];omega)));exact OwnEC.out)|exact Q0 rfl|exact Ql|(apply Qg;exact Q0 rfl)|exact Q5 rfl rfl|(apply view_rowsR;exact rfl;exact rfl;(· (apply mlen;first|exact rfl|assumption|exact Nat.le_of_ble_eq_true rfl|omega|(simp [Q1];done)|(simp [Q1];omega))))|(apply vx_blks;(iterate 3 exact rfl);(· (apply mlen;first|exact rfl|assumption|exact Nat.le_of_ble_eq_true rfl|omega|(simp [Q1];done)|(simp [Q1];omega))))|exact rfl|fail)
theorem isRows {x:AV} (h:TyV ty 35 x):∃ l:List (List UInt8),x = Y2 l/\rowsR l:=by
 obtain ⟨h1,h2⟩:=inv_leafs h (l:=[35]) rfl
 have h3:=h.2.2.2 ⟨_,rfl,rfl⟩
 obtain ⟨ei,xs,e1,rfl,e2,e3⟩:=h2 0 35 x rfl (by rw [h3];rfl)
 obtain rfl:=Option.some.inj e1
 obtain ⟨q,rfl,hq⟩:=rows_of xs e3
 rw [List.length_map] at e2
 exact ⟨q,rfl,e2,hq⟩
end Go.Proofs.YtaolmfgpebncjaaGreat
