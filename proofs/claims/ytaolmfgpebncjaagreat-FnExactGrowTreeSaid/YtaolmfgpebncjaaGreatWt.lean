/- What the arguments of the laws are, read off their types. -/
import Derived.Test.YtaolmfgpebncjaaGreatWb
import Derived.Test.YtaolmfgpebncjaaGreatWa
set_option maxRecDepth 100000
set_option maxHeartbeats 3200000
set_option linter.unusedSimpArgs false
set_option linter.unusedVariables false
namespace Go.Proofs.YtaolmfgpebncjaaGreat
open Go.Av
attribute [local irreducible] T thenQ Uv Y0 Uz WX retV retR Gt Gts GtsP Qs CV CR Av.Pure
abbrev bytesRes (c:Int) (bs:List UInt8):AV:=.agg [.int .i64 c,sl1 (bA bs)]
def recBytes (k n t:Int):List UInt8:=byteOf k::(putN n++if k = 2 then putN t else [])
def recCode (k n t:Int):Int :=
 if ¬ (1<=k/\k<=3) then 1 else if ¬ (1<=n/\n<=1000000)∨¬ (0<=t/\t<=1099511627776) then 3 else if t≠0/\k≠2 then 1 else 0
def recOut (k n t:Int):List UInt8:=if recCode k n t = 0 then recBytes k n t else []
def Yf (k:Int) (n:Nat):List UInt8:=(List.range n).map λ i:Nat=>byteOf (k + (i:Int))
theorem marksB_length (k:Int) (n:Nat):(Yf k n).length = n:=by simp [Yf]
theorem marksB_step (bs:List UInt8) (k:Int) {j:Nat} (h:j < bs.length) :
  (bA (Yf k j)++bA (bs.drop j)).set (0 + ((j:Int)).toNat) (.int .u8 ((byteOf (k + j)).toNat:Int)) = bA (Yf k (j + 1))++bA (bs.drop (j + 1)):=by
 rw [Nat.zero_add,Int.toNat_natCast]
 have hl:(bA (Yf k j)).length = j:=by rw [Q1,marksB_length]
 rw [List.drop_eq_getElem_cons h]
 rw [show bA (bs[j]::bs.drop (j + 1)) = .int .u8 ((bs[j]).toNat:Int)::bA (bs.drop (j + 1)) from rfl]
 rw [List.set_append_right _ _ (by omega),hl,Nat.sub_self,List.set_cons_zero]
 rw [Yf,Yf,List.range_succ,List.map_append]
 simp [bA]
theorem markByteS_cr (bs:List UInt8) (k:Int) (sl:Bool) (hb:bs.length<=1073741824) (h0:0<=k) (h1:k<=1152921504606846976) :
  CR Tryz.prog 62 [.sl 0 0 bs.length bs.length,.int .i64 k] [(0,some ⟨bA bs,1,sl,false⟩)] 1 (Is (.int .i64 (k + bs.length)) [(0,some ⟨bA (Yf k bs.length),1,sl,false⟩)] 1):=by
 refine Us Qc Tryz.func62 (by kernel_rfl) rfl 20 rfl (by simp) [.tmp 4] rfl ?_
 intro w0 ok0 wr φ0
 repeat' (first|refine Qh ?_|refine Q9 ?_|refine Q8 Qc ?_|refine Qi ?_|refine Qo ?_|apply Q2|exact Q0 rfl|exact rfl|fail)
 refine Js (α:=Nat) (λ j=>⟨[(0,.sl 0 0 bs.length bs.length),(1,.int .i64 (k + j)),(5,.int .i64 j)],[(0,some ⟨bA (Yf k j)++bA (bs.drop j),1,sl,false⟩)],1⟩)
  (λ j=>bs.length - j) (λ j=>j<=bs.length) 0 (Jp (Qr rfl (Qr (by rw [Int.natCast_zero,Int.add_zero];rfl) (Qr rfl Qy))) (Qt rfl Qz) (Nat.le_refl _)).sub (by omega) ?_
 intro j hj
 by_cases hjl:j < bs.length
 ·have hc:decide ((j:Int) < (bs.length:Int)) = true:=by simp only [decide_eq_true_eq];omega
  have hw:=wrap_byte (k + j)
  have hset:=marksB_step bs k hjl
  have hin:0 + ((j:Int)).toNat < (bA (Yf k j)++bA (bs.drop j)).length:=by simp [Q1,marksB_length];omega
  have hk:IntKind.wrap .i64 (k + (j:Int) + 1) = k + ((j + 1:Nat):Int):=by rw [wrap_i64 (by omega) (by omega)];omega
  repeat' (first|refine Qh ?_|refine Q9 ?_|refine U9 ?_|refine Q8 Qc ?_|refine Qi ?_|refine Qw ?_|refine Qo ?_|(apply Jf;exact rfl;(· (first|assumption|exact rfl)))|apply Qd|apply Q2|apply Jd|apply Y7|(apply S_conv;exact rfl;exact rfl;exact Q0 rfl)|(apply S_len_sl;exact rfl;exact Q0 rfl)|(apply S_idxSl;exact rfl;exact rfl;exact Q0 rfl;exact rfl;exact Q0 rfl)|(apply S_storeE;exact rfl;exact Q0 rfl;(iterate 3 exact rfl))|exact Q0 rfl|exact Q5 rfl rfl|assumption|(apply wrap_i64;omega;omega)|(refine ⟨?_,?_⟩<;>omega)|exact rfl|fail)
  exact U7 (j + 1) ((Jp (by repeat' (first|exact Qy|refine Qr rfl ?_)) (by repeat' (first|exact Qz|refine Qt (by first|rfl|exact congrArg (λ l=>some (Box.mk l _ _ _)) hset) ?_)) (Nat.le_refl _))).sub (by omega) (by omega)
 ·have hc:decide ((j:Int) < (bs.length:Int)) = false:=by simp only [decide_eq_false_iff_not];omega
  obtain rfl:j = bs.length:=by omega
  have he:bA (Yf k bs.length)++bA (bs.drop bs.length) = bA (Yf k bs.length):=by rw [List.drop_length];exact List.append_nil _
  repeat' (first|refine Qh ?_|refine Q9 ?_|refine Ua ?_|refine Jt ?_|refine Jo ?_|refine Q8 Qc ?_|refine Qi ?_|refine Qu ?_|refine Un ?_|(apply J9;exact rfl;(· (first|assumption|exact rfl)))|apply Qd|apply Q2|apply Jd|(apply S_len_sl;exact rfl;exact Q0 rfl)|exact Q0 rfl|exact rfl|fail)
  rw [he]
  (apply E_U0 [(0,0)]<;>repeat' (first|exact J4|(apply J3;exact rfl)|(apply Qx;(iterate 6 exact rfl))|(apply J5;(iterate 4 exact rfl);(· (first|assumption|exact rfl)))|exact Ren.sl _ _ _ _|(apply Ub;(· first|exact rfl|omega);(· first|exact rfl|assumption|(simp [Q1];done)|(simp [Q1];omega));(· first|exact rfl|assumption|(simp [Q1];done)|(simp [Q1];omega)))|exact Ren.ptr _ _ _|exact Qf|apply Q7|(apply Ren.pure;exact Q4.out)|apply Qm|apply Qv|exact Low.sl _ _ _ _ (by decide)|exact Low.ptr _ _ _ (by decide)|exact J0|apply Qq|(apply Low.pure;exact Q4.out)|apply U3|apply U2|exact Ji|(apply Jx;exact rfl;(· first|exact rfl|assumption|(simp [bA];done));exact Q6.out)|(apply Jh;exact rfl)|exact Jc|apply J1|(apply Uf.low;exact Q6.out)|apply Ju|exact Jv|exact rfl))
theorem marksB_getD (k:Int) (n:Nat) {j:Nat} (h:j < n):(Yf k n).getD j 0 = byteOf (k + j):=by
 simp [Yf,List.getD_eq_getElem?_getD,h]
theorem heldByteS_cv (n:Nat) (k:Int) (hn:n<=1073741824) (h0:0<=k) (h1:k<=1152921504606846976):CV Tryz.prog 176 [sl1 (bA (Yf k n)),.int .i64 k] (· = .int .i64 (k + n)):=by
 refine J7 Qc Tryz.func176 (by kernel_rfl) rfl 22 rfl (by simp) [.tmp 4] rfl ?_
 intro w0 ok0
 have hl:(bA (Yf k n)).length = n:=by rw [Q1,marksB_length]
 repeat' (first|refine Qh ?_|refine Q9 ?_|refine Q8 Qc ?_|refine Qi ?_|refine Qo ?_|apply Q2|exact Q0 rfl|exact rfl|fail)
 refine Js (α:=Nat) (λ j=>⟨[(0,sl1 (bA (Yf k n))),(1,.int .i64 (k + j)),(5,.int .i64 j)],[],0⟩)
  (λ j=>n - j) (λ j=>j<=n) 0 (Jp (Qr rfl (Qr (by rw [Int.natCast_zero,Int.add_zero];rfl) (Qr rfl Qy))) Qz (Nat.le_refl _)).sub (by omega) ?_
 intro j hj
 by_cases hjl:j < n
 ·have hc:decide ((j:Int) < ((bA (Yf k n)).length:Int)) = true:=by simp only [decide_eq_true_eq];omega
  have hw:=wrap_byte (k + j)
  have hget:(bA (Yf k n)).getD ((j:Int)).toNat .undef = .int .u8 ((byteOf (k + j)).toNat:Int):=by
   rw [bA_getD _ (by rw [marksB_length];exact hjl),marksB_getD k n hjl]
  have hk:IntKind.wrap .i64 (k + (j:Int) + 1) = k + ((j + 1:Nat):Int):=by rw [wrap_i64 (by omega) (by omega)];omega
  have hd:(!decide (((byteOf (k + j)).toNat:Int) = ((byteOf (k + j)).toNat:Int))) = false:=by simp
  repeat' (first|refine Qh ?_|refine Q9 ?_|refine U9 ?_|refine Q8 Qc ?_|refine Qi ?_|refine Qw ?_|refine Qo ?_|(apply Jf;exact rfl;(· (first|assumption|exact rfl)))|(apply J9;exact rfl;(· (first|assumption|exact rfl)))|apply Qd|apply Q2|(apply Ue;exact rfl;exact Q0 rfl;exact rfl;(· (first|exact ⟨rfl,rfl⟩|exact ⟨rfl,trivial⟩|assumption)))|apply Jd|(apply Y4;exact Q0 rfl;exact Q0 rfl)|apply Y7|(apply S_conv;exact rfl;exact rfl;exact Q0 rfl)|(apply Qp;exact rfl;exact Q0 rfl)|(apply Jk;exact rfl;exact rfl;exact Q0 rfl;exact Q0 rfl)|exact Q0 rfl|assumption|(apply wrap_i64;omega;omega)|(refine ⟨?_,?_⟩<;>omega)|exact rfl|fail)
  exact U7 (j + 1) ((Jp (by repeat' (first|exact Qy|refine Qr rfl ?_)) (by repeat' (first|exact Qz|refine Qt (by first|rfl|exact congrArg (λ l=>some (Box.mk l _ _ _)) hset) ?_)) (Nat.le_refl _))).sub (by omega) (by omega)
 ·have hc:decide ((j:Int) < ((bA (Yf k n)).length:Int)) = false:=by simp only [decide_eq_false_iff_not];omega
  obtain rfl:j = n:=by omega
  repeat' (first|refine Qh ?_|refine Q9 ?_|refine Ua ?_|refine Jt ?_|refine Jo ?_|refine Q8 Qc ?_|refine Qi ?_|refine Qu ?_|refine Un ?_|(apply Jr;exact rfl;(· (repeat' (first|exact Qb _ _|exact Qj _|exact Qn _);done)))|(apply J9;exact rfl;(· (first|assumption|exact rfl)))|apply Qd|apply Q2|apply Jd|(apply Qp;exact rfl;exact Q0 rfl)|exact Q0 rfl|exact rfl|fail)
theorem markByteS_at (bs:List UInt8) (k:Int) (sl:Bool) (hb:bs.length<=1073741824) (h0:0<=k) (h1:k<=1152921504606846976) (id N:Nat) (hid:id < N) :
  CR Tryz.prog 62 [.sl id 0 bs.length bs.length,.int .i64 k] [(id,some ⟨bA bs,1,sl,false⟩)] N (Is (.int .i64 (k + bs.length)) [(id,some ⟨bA (Yf k bs.length),1,sl,false⟩)] N) :=
 (CR.toI (markByteS_cr bs k sl hb h0 h1) [id] rfl (by simp [*]<;>omega) _ (by simp [*]<;>omega) (by repeat' (first|exact Ren.sl _ _ _ _|exact Ren.ptr _ _ _|exact Qf|apply Q7|(apply Ren.pure;exact Q4.out)|apply Qm|apply Qv|exact Jn|(apply Ja;exact rfl;exact Q6.out)|(apply Jm;exact rfl))) (by repeat' (first|exact Ren.sl _ _ _ _|exact Ren.ptr _ _ _|exact Qf|apply Q7|(apply Ren.pure;exact Q4.out)|apply Qm|apply Qv|exact Jn|(apply Ja;exact rfl;exact Q6.out)|(apply Jm;exact rfl))) (by omega) (by repeat' (first|exact Ren.sl _ _ _ _|exact Ren.ptr _ _ _|exact Qf|apply Q7|(apply Ren.pure;exact Q4.out)|apply Qm|apply Qv|exact Jn|(apply Ja;exact rfl;exact Q6.out)|(apply Jm;exact rfl))) (by repeat' (first|exact Ren.sl _ _ _ _|exact Ren.ptr _ _ _|exact Qf|apply Q7|(apply Ren.pure;exact Q4.out)|apply Qm|apply Qv|exact Jn|(apply Ja;exact rfl;exact Q6.out)|(apply Jm;exact rfl))))
end Go.Proofs.YtaolmfgpebncjaaGreat
set_option maxRecDepth 100000
set_option maxHeartbeats 3200000
set_option linter.unusedSimpArgs false
set_option linter.unusedVariables false
namespace Go.Proofs.YtaolmfgpebncjaaGreat
open Go.Av
attribute [local irreducible] T thenQ Uv Y0 Uz WX retV retR Gt Gts GtsP Qs CV CR Av.Pure
theorem bytesClone_cr0 (bs:List UInt8) (h:bs.length<=1073741824):CR Tryz.prog 139 [sl1 (bA bs)] [] 0 (Is (.sl 0 0 bs.length bs.length) [(0,some ⟨bA bs,1,true,false⟩)] (0 + 1)):=by
 refine Us Qc Tryz.func139 (by kernel_rfl) rfl 8 rfl (by simp) [.tmp 2] rfl ?_
 intro w0 ok0 wr φ0
 refine Qh ?_
 refine Q8 Qc ?_
 repeat' (first|refine Qh ?_|refine Q9 ?_|refine Q8 Qc ?_|refine Qi ?_|apply Qd|apply Q2|exact Q0 rfl|exact rfl|fail)
 apply S_eqNil Qc rfl (Q0 rfl) rfl
 ·intro he
  have hb:bs = []:=by cases bs with
   | nil=>rfl
   | cons a l=>simp [bA] at he
  subst hb
  repeat' (first|refine Qh ?_|refine Q9 ?_|refine J8 ?_|refine Q8 Qc ?_|refine Qi ?_|refine Qu ?_|(apply Jf;exact rfl;(· (first|assumption|exact rfl)))|apply Q2|exact Q0 rfl|exact rfl|fail)
  (apply E_U1 [(0,0)] 1<;>repeat' (first|exact J4|(apply J3;exact rfl)|(apply Qx;(iterate 6 exact rfl))|(apply J5;(iterate 4 exact rfl);(· (first|assumption|exact rfl)))|exact Ren.sl _ _ _ _|(apply Ub;(· first|exact rfl|omega);(· first|exact rfl|assumption|(simp [Q1];done)|(simp [Q1];omega));(· first|exact rfl|assumption|(simp [Q1];done)|(simp [Q1];omega)))|exact Ren.ptr _ _ _|exact Qf|apply Q7|(apply Ren.pure;exact Q4.out)|apply Qm|apply Qv|exact Low.sl _ _ _ _ (by decide)|exact Low.ptr _ _ _ (by decide)|exact J0|apply Qq|(apply Low.pure;exact Q4.out)|apply U3|apply U2|exact Ji|(apply Jx;exact rfl;(· first|exact rfl|assumption|(simp [bA];done));exact Q6.out)|(apply Jh;exact rfl)|exact Jc|apply J1|(apply Uf.low;exact Q6.out)|apply Ju|exact Jv|exact rfl))
 ·repeat' (first|refine Qh ?_|refine Q9 ?_|refine Q8 Qc ?_|refine Qi ?_|refine Qw ?_|refine Qu ?_|(apply J9;exact rfl;(· (first|assumption|exact rfl)))|apply Qd|apply Q2|(apply M_appB;exact rfl;exact rfl;exact Q0 rfl)|(apply S_buildL Qc;(iterate 3 exact rfl))|(apply mlen;first|exact rfl|assumption|exact Nat.le_of_ble_eq_true rfl|omega|(simp [Q1];done)|(simp [Q1];omega))|(apply msz;first|assumption|exact Nat.le_of_ble_eq_true rfl|(dsimp only;simp only [List.length_append,List.length_map,List.length_cons,List.length_nil,Q1,List.length_take,List.length_drop,List.length_replicate] at *;omega)|(dsimp only;omega))|(apply mnorm;first|with_reducible exact app_nil0 _|exact app_norm _ _|exact rfl)|exact Src.ls rfl rfl|(dsimp only;omega)|exact U4|exact Uc|exact Q0 rfl|omega|exact rfl|fail)
  (apply E_U0 [(0,1)]<;>repeat' (first|exact J4|(apply J3;exact rfl)|(apply Qx;(iterate 6 exact rfl))|(apply J5;(iterate 4 exact rfl);(· (first|assumption|exact rfl)))|exact Ren.sl _ _ _ _|(apply Ub;(· first|exact rfl|omega);(· first|exact rfl|assumption|(simp [Q1];done)|(simp [Q1];omega));(· first|exact rfl|assumption|(simp [Q1];done)|(simp [Q1];omega)))|exact Ren.ptr _ _ _|exact Qf|apply Q7|(apply Ren.pure;exact Q4.out)|apply Qm|apply Qv|exact Low.sl _ _ _ _ (by decide)|exact Low.ptr _ _ _ (by decide)|exact J0|apply Qq|(apply Low.pure;exact Q4.out)|apply U3|apply U2|exact Ji|(apply Jx;exact rfl;(· first|exact rfl|assumption|(simp [bA];done));exact Q6.out)|(apply Jh;exact rfl)|exact Jc|apply J1|(apply Uf.low;exact Q6.out)|apply Ju|exact Jv|exact rfl))
theorem bytesClone_cr (bs:List UInt8) (h:bs.length<=1073741824) (N:Nat):CR Tryz.prog 139 [sl1 (bA bs)] [] N (Is (.sl N 0 bs.length bs.length) [(N,some ⟨bA bs,1,true,false⟩)] (N + 1)) :=
 CR.allN (bytesClone_cr0 bs h) N (by first|exact Q4.out|exact Qe.out|assumption) (by repeat' (first|exact Ren.sl _ _ _ _|exact Ren.ptr _ _ _|exact Qf|apply Q7|(apply Ren.pure;(first|exact Q4.out|exact Qe.out|assumption))|apply Qm|apply Qv)) (by repeat' (first|exact Jn|(apply Ja;exact rfl;(· (exact Q6.out)))|(apply Jm;exact rfl)|exact Qf|apply Q7|exact Ren.sl _ _ _ _|exact Ren.ptr _ _ _|(apply Ren.pure;(first|exact Q4.out|exact Qe.out|assumption))|apply Qm))
abbrev byA (w:List UInt8):AV:=sl1 (bA w)
instance:ElemF byA:=⟨λ a y hy=>by
 simp only [AV.cells,List.mem_cons,List.not_mem_nil,or_false] at hy
 subst hy
 exact ⟨pure_bytes _ _ _ _,rfl⟩⟩
theorem take_flat (ws:List (List UInt8)) {k:Nat} (h:k < ws.length):(ws.take (k + 1)).flatten = (ws.take k).flatten++ws.getD k []:=by
 rw [List.take_add_one,List.flatten_append,List.getD_eq_getElem?_getD]
 simp [h]
theorem take_flat_le (ws:List (List UInt8)) (k:Nat):(ws.take k).flatten.length<=ws.flatten.length:=by
 have h:=congrArg (λ l=>(List.flatten l).length) (List.take_append_drop k ws)
 simp only [List.flatten_append,List.length_append] at h
 omega
end Go.Proofs.YtaolmfgpebncjaaGreat
set_option maxRecDepth 100000
set_option maxHeartbeats 3200000
set_option linter.unusedVariables false
namespace Go.Proofs.YtaolmfgpebncjaaGreat
open Go.Av
theorem inv_leafs {t:TypeId} {x:AV} {l:List TypeId} (h:TyV ty t x) (hl:leafs ty 8 t = some l):x.cells.length = l.length/\∀ (j:Nat) (u:TypeId) (v:AV),l[j]? = some u->x.cells[j]? = some v ->
  match (ty u).map TI.k with
  | some (.int k)=>∃ i,v = .int k i/\k.min<=i/\i<=k.max
  | some .bool=>∃ b,v = .bool b
  | some .str=>∃ s:ByteArray,v = .str s/\s.size<=maxLen
  | some (.slice e)=>∃ ei xs,ty e = some ei/\v = .ls ei.size true false xs/\xs.length<=maxLen /\
    ∀ x∈xs,TyN ty 3 e x.cells/\x = (if Ut ei.k then .agg x.cells else x.cells.getD 0 .undef)
  | _=>False:=by
 obtain ⟨⟨ls,h1,h2,h3⟩,_⟩:=h
 rw [hl] at h1
 obtain rfl:=Option.some.inj h1
 exact ⟨h2,h3⟩
theorem cells1 {x:AV} (h:x.cells.length = 1):∃ a,x.cells = [a]:=by
 match hx:x.cells,h with
 | [a],_=>exact ⟨a,rfl⟩
theorem isInt {x:AV} (h:TyV ty 2 x):∃ i,x = .int .i64 i/\-9223372036854775808<=i/\i<=9223372036854775807:=by
 obtain ⟨h1,h2⟩:=inv_leafs h (l:=[2]) rfl
 obtain ⟨a,ha⟩:=cells1 h1
 have h3:=h.2.2.2 ⟨_,rfl,rfl⟩
 obtain ⟨i,rfl,h4,h5⟩:=h2 0 2 x rfl (by rw [h3];rfl)
 exact ⟨i,rfl,h4,h5⟩
end Go.Proofs.YtaolmfgpebncjaaGreat
