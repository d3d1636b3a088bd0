/- Rows in boxes of their own: laid, marked, told. -/
import Derived.Test.YtaolmfgpebncjaaGreatRa
import Derived.Test.YtaolmfgpebncjaaGreatGj
import Derived.Test.YtaolmfgpebncjaaGreatGk
set_option maxRecDepth 100000
set_option maxHeartbeats 3200000
set_option linter.unusedSimpArgs false
set_option linter.unusedVariables false
namespace Go.Proofs.YtaolmfgpebncjaaGreat
open Go.Av
attribute [local irreducible] T thenQ Uv Y0 Uz WX retV retR Gt Gts GtsP Qs CV CR Av.Pure
def putB (D:List UInt8) (off n:Nat) (k:Int):List UInt8:=D.take off++Yf k n++D.drop (off + n)
theorem putB_length {D:List UInt8} {off n:Nat} {k:Int} (h:off + n<=D.length):(putB D off n k).length = D.length:=by
 simp only [putB,List.length_append,List.length_take,List.length_drop,marksB_length];omega
theorem putB_zero (D:List UInt8) (off:Nat) (k:Int):putB D off 0 k = D:=by simp [putB,Yf]
theorem marksB_add (k:Int) (a:Nat):∀ b,Yf k (a + b) = Yf k a++Yf (k + a) b:=by
 intro b
 unfold Yf
 rw [List.range_add,List.map_append,List.map_map]
 congr 1
 refine List.map_congr_left λ i _=>?_
 simp only [Function.comp_apply]
 congr 1
 omega
theorem putB_step {D:List UInt8} {off n:Nat} (k:Int) {j:Nat} (h:j < n) (hf:off + n<=D.length) :
  (bA (putB D off j k)).set (off + ((j:Int)).toNat) (.int .u8 ((byteOf (k + j)).toNat:Int)) = bA (putB D off (j + 1) k):=by
 rw [Int.toNat_natCast]
 have h1:(D.take off++Yf k j).length = off + j:=by rw [List.length_append,List.length_take,marksB_length];omega
 have h2:D.drop (off + j) = D[off + j]::D.drop (off + (j + 1)):=List.drop_eq_getElem_cons (by omega)
 have h3:Yf k (j + 1) = Yf k j++[byteOf (k + j)]:=by rw [marksB_add];simp [Yf]
 unfold putB
 rw [h2,h3]
 simp only [bA,List.map_append,List.map_cons,List.map_nil]
 rw [<-List.map_append,List.set_append_right _ _ (by rw [List.length_map,h1];omega),List.length_map,h1,Nat.sub_self,List.set_cons_zero]
 simp
theorem markPart_cr (D:List UInt8) (off n:Nat) (k:Int) (sl:Bool) (hf:off + n<=D.length) (hb:D.length<=1073741824) (h0:0<=k) (h1:k<=1152921504606846976) :
  CR Tryz.prog 62 [.sl 0 off n n,.int .i64 k] [(0,some ⟨bA D,1,sl,false⟩)] 1 (Is (.int .i64 (k + n)) [(0,some ⟨bA (putB D off n k),1,sl,false⟩)] 1):=by
 refine Us Qc Tryz.func62 (by kernel_rfl) rfl 20 rfl (by simp) [.tmp 4] rfl ?_
 intro w0 ok0 wr φ0
 repeat' (first|refine Qh ?_|refine Q9 ?_|refine Q8 Qc ?_|refine Qi ?_|refine Qo ?_|apply Q2|exact Q0 rfl|exact rfl|fail)
 refine Js (α:=Nat) (λ j=>⟨[(0,.sl 0 off n n),(1,.int .i64 (k + j)),(5,.int .i64 j)],[(0,some ⟨bA (putB D off j k),1,sl,false⟩)],1⟩)
  (λ j=>n - j) (λ j=>j<=n) 0 ?_ (by omega) ?_
 ·simp only [putB_zero,Int.natCast_zero,Int.add_zero]
  exact ((Jp (by repeat' (first|exact Qy|refine Qr rfl ?_)) (by repeat' (first|exact Qz|refine Qt (by first|rfl|exact congrArg (λ l=>some (Box.mk l _ _ _)) hset) ?_)) (Nat.le_refl _))).sub
 intro j hj
 by_cases hjl:j < n
 ·have hc:decide ((j:Int) < (n:Int)) = true:=by simp only [decide_eq_true_eq];omega
  have hw:=wrap_byte (k + j)
  have hset:=putB_step k hjl hf
  have hin:off + ((j:Int)).toNat < (bA (putB D off j k)).length:=by rw [Q1,putB_length (by omega)];omega
  have hk:IntKind.wrap .i64 (k + (j:Int) + 1) = k + ((j + 1:Nat):Int):=by rw [wrap_i64 (by omega) (by omega)];omega
  repeat' (first|refine Qh ?_|refine Q9 ?_|refine U9 ?_|refine Q8 Qc ?_|refine Qi ?_|refine Qw ?_|refine Qo ?_|(apply Jf;exact rfl;(· (first|assumption|exact rfl)))|apply Qd|apply Q2|apply Jd|apply Y7|(apply S_conv;exact rfl;exact rfl;exact Q0 rfl)|(apply S_len_sl;exact rfl;exact Q0 rfl)|(apply S_idxSl;exact rfl;exact rfl;exact Q0 rfl;exact rfl;exact Q0 rfl)|(apply S_storeE;exact rfl;exact Q0 rfl;(iterate 3 exact rfl))|exact Q0 rfl|exact Q5 rfl rfl|assumption|(apply wrap_i64;omega;omega)|(refine ⟨?_,?_⟩<;>omega)|exact rfl|fail)
  exact U7 (j + 1) ((Jp (by repeat' (first|exact Qy|refine Qr rfl ?_)) (by repeat' (first|exact Qz|refine Qt (by first|rfl|exact congrArg (λ l=>some (Box.mk l _ _ _)) hset) ?_)) (Nat.le_refl _))).sub (by omega) (by omega)
 ·have hc:decide ((j:Int) < (n:Int)) = false:=by simp only [decide_eq_false_iff_not];omega
  obtain rfl:j = n:=by omega
  repeat' (first|refine Qh ?_|refine Q9 ?_|refine Ua ?_|refine Jt ?_|refine Jo ?_|refine Q8 Qc ?_|refine Qi ?_|refine Qu ?_|refine Un ?_|(apply J9;exact rfl;(· (first|assumption|exact rfl)))|apply Qd|apply Q2|apply Jd|(apply S_len_sl;exact rfl;exact Q0 rfl)|exact Q0 rfl|exact rfl|fail)
  (apply E_U0 [(0,0)]<;>repeat' (first|exact J4|(apply J3;exact rfl)|(apply Qx;(iterate 6 exact rfl))|(apply J5;(iterate 4 exact rfl);(· (first|assumption|exact rfl)))|exact Ren.sl _ _ _ _|(apply Ub;(· first|exact rfl|omega);(· first|exact rfl|assumption|(simp [Q1];done)|(simp [Q1];omega));(· first|exact rfl|assumption|(simp [Q1];done)|(simp [Q1];omega)))|exact Ren.ptr _ _ _|exact Qf|apply Q7|(apply Ren.pure;exact Q4.out)|apply Qm|apply Qv|exact Low.sl _ _ _ _ (by decide)|exact Low.ptr _ _ _ (by decide)|exact J0|apply Qq|(apply Low.pure;exact Q4.out)|apply U3|apply U2|exact Ji|(apply Jx;exact rfl;(· first|exact rfl|assumption|(simp [bA];done));exact Q6.out)|(apply Jh;exact rfl)|exact Jc|apply J1|(apply Uf.low;exact Q6.out)|apply Ju|exact Jv|(apply Yg;exact rfl)|exact Ud|apply Jz|apply lowX_cons|exact U6 _ _ _ _|exact outsN_low _ _ _ (by decide)|exact rfl))
theorem markPart_at (D:List UInt8) (off n:Nat) (k:Int) (sl:Bool) (hf:off + n<=D.length) (hb:D.length<=1073741824) (h0:0<=k) (h1:k<=1152921504606846976) (id N:Nat) (hid:id < N) :
  CR Tryz.prog 62 [.sl id off n n,.int .i64 k] [(id,some ⟨bA D,1,sl,false⟩)] N (Is (.int .i64 (k + n)) [(id,some ⟨bA (putB D off n k),1,sl,false⟩)] N) :=
 (CR.toI (markPart_cr D off n k sl hf hb h0 h1) [id] rfl (by simp [*]<;>omega) _ (by simp [*]<;>omega) (by repeat' (first|exact Ren.sl _ _ _ _|exact Ren.ptr _ _ _|exact Qf|apply Q7|(apply Ren.pure;exact Q4.out)|apply Qm|apply Qv|exact Jn|(apply Ja;exact rfl;exact Q6.out)|(apply Jm;exact rfl)|(apply Um;exact rfl)|exact Ud|apply Jz|exact U6 _ _ _ _)) (by repeat' (first|exact Ren.sl _ _ _ _|exact Ren.ptr _ _ _|exact Qf|apply Q7|(apply Ren.pure;exact Q4.out)|apply Qm|apply Qv|exact Jn|(apply Ja;exact rfl;exact Q6.out)|(apply Jm;exact rfl)|(apply Um;exact rfl)|exact Ud|apply Jz|exact U6 _ _ _ _)) (by omega) (by repeat' (first|exact Ren.sl _ _ _ _|exact Ren.ptr _ _ _|exact Qf|apply Q7|(apply Ren.pure;exact Q4.out)|apply Qm|apply Qv|exact Jn|(apply Ja;exact rfl;exact Q6.out)|(apply Jm;exact rfl)|(apply Um;exact rfl)|exact Ud|apply Jz|exact U6 _ _ _ _)) (by repeat' (first|exact Ren.sl _ _ _ _|exact Ren.ptr _ _ _|exact Qf|apply Q7|(apply Ren.pure;exact Q4.out)|apply Qm|apply Qv|exact Jn|(apply Ja;exact rfl;exact Q6.out)|(apply Jm;exact rfl)|(apply Um;exact rfl)|exact Ud|apply Jz|exact U6 _ _ _ _)))
def marksR:Int->List (List UInt8)->List (List UInt8)
 | _,[]=>[]
 | k,w::l=>Yf k w.length::marksR (k + w.length) l
theorem marksR_lens:∀ (k:Int) (rows:List (List UInt8)),(marksR k rows).map List.length = rows.map List.length
 | _,[]=>rfl
 | k,w::l=>by simp only [marksR,List.map_cons,marksB_length,marksR_lens (k + w.length) l]
theorem marksR_length (k:Int) (rows:List (List UInt8)):(marksR k rows).length = rows.length:=by
 have:=congrArg List.length (marksR_lens k rows)
 simpa using this
theorem marksR_flat:∀ (k:Int) (rows:List (List UInt8)),(marksR k rows).flatten = Yf k rows.flatten.length
 | _,[]=>by simp [marksR,Yf]
 | k,w::l=>by
   simp only [marksR,List.flatten_cons,List.length_append,marksR_flat (k + w.length) l]
   rw [marksB_add]
theorem marksR_get:∀ (k:Int) (rows:List (List UInt8)) (i:Nat),i < rows.length->(marksR k rows).getD i [] = Yf (k + ((rows.map List.length).take i).sum) (rows.getD i []).length
 | k,[],i,h=>by simp at h
 | k,w::l,0,_=>by simp [marksR]
 | k,w::l,i + 1,h=>by
   have:=marksR_get (k + w.length) l i (by simpa using h)
   simp only [marksR,List.getD_cons_succ,List.map_cons,List.take_succ_cons,List.sum_cons,this]
   congr 1
   omega
theorem take_sum {ns:List Nat} {i n:Nat} (h:ns[i]? = some n):(ns.take (i + 1)).sum = (ns.take i).sum + n:=by
 rw [List.take_add_one,h];simp
theorem take_sum_le (ns:List Nat) (i:Nat):(ns.take i).sum<=ns.sum:=by
 have:=List.sum_append (l₁:=ns.take i) (l₂:=ns.drop i)
 rw [List.take_append_drop] at this
 omega
theorem putB_putB {D:List UInt8} {a n:Nat} (k:Int) (h:a + n<=D.length):putB (putB D 0 a k) a n (k + a) = putB D 0 (a + n) k:=by
 have h1:(Yf k a).length = a:=marksB_length _ _
 simp only [putB,List.take_zero,List.nil_append,Nat.zero_add]
 rw [List.take_append_of_le_length (by omega),List.take_of_length_le (by omega),List.drop_append,marksB_add]
 simp only [h1,List.drop_of_length_le (show (Yf k a).length<=a + n by omega),List.nil_append,List.drop_drop,List.append_assoc]
 congr 3
 omega
theorem markRows_cr (rows:List (List UInt8)) (k:Int) (sl sl':Bool) (hb:rows.flatten.length<=1073741824) (hn:rows.length<=1073741824) (h0:0<=k) (h1:k<=1000000000000000) :
  CR Tryz.prog 23 [.sl 1 0 rows.length rows.length,.int .i64 k] [(0,some ⟨bA rows.flatten,1,sl,false⟩),(1,some ⟨Yb 0 0 (rows.map List.length),1,sl',false⟩)] 2
   (Is (.int .i64 (k + rows.flatten.length)) [(0,some ⟨bA (marksR k rows).flatten,1,sl,false⟩),(1,some ⟨Yb 0 0 ((marksR k rows).map List.length),1,sl',false⟩)] 2):=by
 refine Us Qc Tryz.func23 (by kernel_rfl) rfl 19 rfl (by simp) [.tmp 4] rfl ?_
 intro w0 ok0 wr φ0
 rw [marksR_lens,marksR_flat]
 have hsum:(rows.map List.length).sum = rows.flatten.length:=by rw [List.length_flatten]
 have hnl:(rows.map List.length).length = rows.length:=by simp
 generalize rows.flatten = D at *
 generalize rows.length = n at *
 generalize rows.map List.length = ns at *
 repeat' (first|refine Qh ?_|refine Q9 ?_|refine J8 ?_|refine Ua ?_|refine U9 ?_|refine Ui ?_|refine Jt ?_|refine N_blockX rfl ?_|refine N_againR ?_|refine N_againE ?_|refine Ya ?_|refine Jo ?_|refine Q8 Qc ?_|(apply Ur Qc Uw;(· kernel_rfl))|refine Qi ?_|refine Qw ?_|refine Qu ?_|refine Un ?_|refine Qo ?_|(apply Jf;exact rfl;(· (first|assumption|exact rfl)))|(apply J9;exact rfl;(· (first|assumption|exact rfl)))|refine T_if rfl (λ _=>?_) (λ _=>?_)|apply Qd|apply Q2|(apply Jj;exact rfl;exact Q0 rfl;(iterate 3 exact rfl);(· (first|exact ⟨rfl,rfl⟩|exact ⟨rfl,trivial⟩|assumption)))|(apply Yc;exact rfl;exact Q0 rfl;(iterate 6 exact rfl))|(apply M_loadA;exact rfl;exact rfl;exact Q0 rfl;exact rfl;exact rfl;(· (repeat' constructor)))|(apply Ue;exact rfl;exact Q0 rfl;exact rfl;(· (first|exact ⟨rfl,rfl⟩|exact ⟨rfl,trivial⟩|assumption)))|(apply Uo;exact rfl;exact Q0 rfl;exact rfl;exact rfl)|(apply M_loadVA;exact rfl;exact rfl;exact Q0 rfl;(· (repeat' constructor)))|apply Jd|apply Y7|(apply Qp;exact rfl;exact Q0 rfl)|(apply S_len_sl;exact rfl;exact Q0 rfl)|(apply S_len_str;exact rfl;exact Q0 rfl)|(apply Jk;exact rfl;exact rfl;exact Q0 rfl;exact Q0 rfl)|(apply S_idxSl;exact rfl;exact rfl;exact Q0 rfl;exact rfl;exact Q0 rfl)|exact Q0 rfl|exact Ql|(apply Qg;exact Q0 rfl)|exact Q5 rfl rfl|assumption|(apply wrap_i64;omega;omega)|(apply wrap_u8;omega;omega)|exact Nat.le_of_ble_eq_true rfl|(refine ⟨?_,?_⟩<;>omega)|omega|exact rfl|fail)
 refine Js (α:=Nat) (λ j=>⟨[(0,.sl 1 0 n n),(1,.int .i64 (k + ((ns.take j).sum:Nat))),(5,.int .i64 j)],[(0,some ⟨bA (putB D 0 (ns.take j).sum k),1,sl,false⟩),(1,some ⟨Yb 0 0 ns,1,sl',false⟩)],2⟩)
  (λ j=>n - j) (λ j=>j<=n) 0 ?_ (by omega) ?_
 ·simp only [List.take_zero,List.sum_nil,putB_zero,Int.natCast_zero,Int.add_zero]
  exact ((Jp (by repeat' (first|exact Qy|refine Qr rfl ?_)) (by repeat' (first|exact Qz|refine Qt (by first|rfl|exact congrArg (λ l=>some (Box.mk l _ _ _)) hset) ?_)) (Nat.le_refl _))).sub
 intro j hj
 have hle:=take_sum_le ns j
 by_cases hjl:j < n
 ·have hc:decide ((j:Int) < (n:Int)) = true:=by simp only [decide_eq_true_eq];omega
  obtain ⟨m,hm⟩:∃ m,ns[j]? = some m:=⟨_,List.getElem?_eq_getElem (by omega)⟩
  have hE:(Yb 0 0 ns)[0 + ((j:Int)).toNat]? = some (.sl 0 ((ns.take j).sum) m m):=by
   have:=outsN_at 0 0 ns hm
   rwa [Nat.zero_add] at this ⊢
  have hs:=take_sum hm
  have hle2:=take_sum_le ns (j + 1)
  generalize hos:(ns.take j).sum = s at *
  have hw1:IntKind.wrap .i64 ((j:Int) + 1) = ((j + 1:Nat):Int):=by rw [wrap_i64 (by omega) (by omega)];omega
  have c0:=λ (id N:Nat) (hid:id < N)=>markPart_at (putB D 0 s k) s m (k + (s:Nat)) sl (by rw [putB_length (by omega)];omega) (by rw [putB_length (by omega)];omega) (by omega) (by omega) id N hid
  rw [putB_putB k (by omega)] at c0
  have e:k + (s:Nat) + (m:Nat) = k + ((s + m:Nat):Int):=by omega
  rw [e] at c0
  repeat' (first|refine Qh ?_|refine Q9 ?_|refine J8 ?_|refine Ua ?_|refine U9 ?_|refine Ui ?_|refine Jt ?_|refine N_blockX rfl ?_|refine N_againR ?_|refine N_againE ?_|refine Ya ?_|refine Jo ?_|refine Q8 Qc ?_|(apply Ur Qc Uw;(· kernel_rfl))|refine Qi ?_|refine Qw ?_|refine Qu ?_|refine Un ?_|refine Qo ?_|(apply M_loadP;exact rfl;exact Q0 rfl;exact rfl;(· (repeat' (first|assumption|apply get_set_same)));exact rfl;(· (first|exact ⟨rfl,rfl⟩|exact ⟨rfl,trivial⟩|assumption)))|(apply M_loadA;exact rfl;exact rfl;exact Q0 rfl;exact rfl;(· (repeat' (first|assumption|apply get_set_same)));(· (repeat' constructor)))|(apply Jf;exact rfl;(· (first|assumption|exact rfl)))|(apply J9;exact rfl;(· (first|assumption|exact rfl)))|refine T_if rfl (λ _=>?_) (λ _=>?_)|apply Qd|apply Q2|(apply Jj;exact rfl;exact Q0 rfl;(iterate 3 exact rfl);(· (first|exact ⟨rfl,rfl⟩|exact ⟨rfl,trivial⟩|assumption)))|(apply Yc;exact rfl;exact Q0 rfl;(iterate 6 exact rfl))|(apply M_loadA;exact rfl;exact rfl;exact Q0 rfl;exact rfl;exact rfl;(· (repeat' constructor)))|(apply Ue;exact rfl;exact Q0 rfl;exact rfl;(· (first|exact ⟨rfl,rfl⟩|exact ⟨rfl,trivial⟩|assumption)))|(apply Uo;exact rfl;exact Q0 rfl;exact rfl;exact rfl)|(apply M_loadVA;exact rfl;exact rfl;exact Q0 rfl;(· (repeat' constructor)))|apply Jd|apply Y7|(apply Qp;exact rfl;exact Q0 rfl)|(apply S_len_sl;exact rfl;exact Q0 rfl)|(apply S_len_str;exact rfl;exact Q0 rfl)|(apply Jk;exact rfl;exact rfl;exact Q0 rfl;exact Q0 rfl)|(apply S_idxSl;exact rfl;exact rfl;exact Q0 rfl;exact rfl;exact Q0 rfl)|(apply S_callL ([0]) (f:=62);(· repeat' (first|exact Ql|exact Q0 rfl|apply Qg));exact rfl;(· (apply c0)<;>first|assumption|decide|omega))|exact Q0 rfl|exact Ql|(apply Qg;exact Q0 rfl)|exact Q5 rfl rfl|assumption|(apply wrap_i64;omega;omega)|(apply wrap_u8;omega;omega)|exact Nat.le_of_ble_eq_true rfl|(refine ⟨?_,?_⟩<;>omega)|omega|exact rfl|fail)
  exact U7 (j + 1) (by rw [hs];exact ((Jp (by repeat' (first|exact Qy|refine Qr rfl ?_)) (by repeat' (first|exact Qz|refine Qt (by first|rfl|exact congrArg (λ l=>some (Box.mk l _ _ _)) hset) ?_)) (Nat.le_refl _))).sub) (by omega) (by omega)
 ·have hc:decide ((j:Int) < (n:Int)) = false:=by simp only [decide_eq_false_iff_not];omega
  have e:ns.take j = ns:=List.take_of_length_le (by omega)
  rw [e,hsum]
  have e2:putB D 0 D.length k = Yf k D.length:=by simp [putB]
  rw [e2]
  repeat' (first|refine Qh ?_|refine Q9 ?_|refine J8 ?_|refine Ua ?_|refine U9 ?_|refine Ui ?_|refine Jt ?_|refine N_blockX rfl ?_|refine N_againR ?_|refine N_againE ?_|refine Ya ?_|refine Jo ?_|refine Q8 Qc ?_|(apply Ur Qc Uw;(· kernel_rfl))|refine Qi ?_|refine Qw ?_|refine Qu ?_|refine Un ?_|refine Qo ?_|(apply Jf;exact rfl;(· (first|assumption|exact rfl)))|(apply J9;exact rfl;(· (first|assumption|exact rfl)))|refine T_if rfl (λ _=>?_) (λ _=>?_)|apply Qd|apply Q2|(apply Jj;exact rfl;exact Q0 rfl;(iterate 3 exact rfl);(· (first|exact ⟨rfl,rfl⟩|exact ⟨rfl,trivial⟩|assumption)))|(apply Yc;exact rfl;exact Q0 rfl;(iterate 6 exact rfl))|(apply M_loadA;exact rfl;exact rfl;exact Q0 rfl;exact rfl;exact rfl;(· (repeat' constructor)))|(apply Ue;exact rfl;exact Q0 rfl;exact rfl;(· (first|exact ⟨rfl,rfl⟩|exact ⟨rfl,trivial⟩|assumption)))|(apply Uo;exact rfl;exact Q0 rfl;exact rfl;exact rfl)|(apply M_loadVA;exact rfl;exact rfl;exact Q0 rfl;(· (repeat' constructor)))|apply Jd|apply Y7|(apply Qp;exact rfl;exact Q0 rfl)|(apply S_len_sl;exact rfl;exact Q0 rfl)|(apply S_len_str;exact rfl;exact Q0 rfl)|(apply Jk;exact rfl;exact rfl;exact Q0 rfl;exact Q0 rfl)|(apply S_idxSl;exact rfl;exact rfl;exact Q0 rfl;exact rfl;exact Q0 rfl)|exact Q0 rfl|exact Ql|(apply Qg;exact Q0 rfl)|exact Q5 rfl rfl|assumption|(apply wrap_i64;omega;omega)|(apply wrap_u8;omega;omega)|exact Nat.le_of_ble_eq_true rfl|(refine ⟨?_,?_⟩<;>omega)|omega|exact rfl|fail)
  (apply E_U0 [(0,0),(1,1)]<;>repeat' (first|exact J4|(apply J3;exact rfl)|(apply Qx;(iterate 6 exact rfl))|(apply J5;(iterate 4 exact rfl);(· (first|assumption|exact rfl)))|exact Ren.sl _ _ _ _|(apply Ub;(· first|exact rfl|omega);(· first|exact rfl|assumption|(simp [Q1];done)|(simp [Q1];omega));(· first|exact rfl|assumption|(simp [Q1];done)|(simp [Q1];omega)))|exact Ren.ptr _ _ _|exact Qf|apply Q7|(apply Ren.pure;exact Q4.out)|apply Qm|apply Qv|exact Low.sl _ _ _ _ (by decide)|exact Low.ptr _ _ _ (by decide)|exact J0|apply Qq|(apply Low.pure;exact Q4.out)|apply U3|apply U2|exact Ji|(apply Jx;exact rfl;(· first|exact rfl|assumption|(simp [bA];done));exact Q6.out)|(apply Jh;exact rfl)|exact Jc|apply J1|(apply Uf.low;exact Q6.out)|apply Ju|exact Jv|(apply Yg;exact rfl)|exact Ud|apply Jz|apply lowX_cons|exact U6 _ _ _ _|exact outsN_low _ _ _ (by decide)|exact rfl))
theorem heldRows_cv (rows:List (List UInt8)) (k:Int) (hb:rows.flatten.length<=1073741824) (hn:rows.length<=1073741824) (h0:0<=k) (h1:k<=1000000000000000) :
  CV Tryz.prog 142 [Y2 (marksR k rows),.int .i64 k] (· = /-flat-/ .int .i64 (k + rows.flatten.length)):=by
 refine J7 Qc Tryz.func142 (by kernel_rfl) rfl 21 rfl (by simp) [.tmp 4] rfl ?_
 intro w0 ok0
 have hl:((marksR k rows).map byA).length = rows.length:=by rw [List.length_map,marksR_length]
 have hsum:(rows.map List.length).sum = rows.flatten.length:=by rw [List.length_flatten]
 have hnl:(rows.map List.length).length = rows.length:=by simp
 repeat' (first|refine Qh ?_|refine Q9 ?_|refine J8 ?_|refine Ua ?_|refine U9 ?_|refine Ui ?_|refine Jt ?_|refine N_blockX rfl ?_|refine N_againR ?_|refine N_againE ?_|refine Ya ?_|refine Jo ?_|refine Q8 Qc ?_|(apply Ur Qc Uw;(· kernel_rfl))|refine Qi ?_|refine Qw ?_|refine Qu ?_|refine Un ?_|refine Qo ?_|(apply Jr;exact rfl;(· (repeat' (first|exact Qb _ _|exact Qj _|exact Qn _);done)))|(apply E_tmpN;exact rfl;(· (repeat' (first|exact Qb _ _|exact Qj _|exact Qn _);done)))|(apply Jf;exact rfl;(· (first|assumption|exact rfl)))|(apply J9;exact rfl;(· (first|assumption|exact rfl)))|refine T_if rfl (λ _=>?_) (λ _=>?_)|apply Qd|apply Q2|(apply Jj;exact rfl;exact Q0 rfl;(iterate 3 exact rfl);(· (first|exact ⟨rfl,rfl⟩|exact ⟨rfl,trivial⟩|assumption)))|(apply Yc;exact rfl;exact Q0 rfl;(iterate 6 exact rfl))|(apply M_loadA;exact rfl;exact rfl;exact Q0 rfl;exact rfl;exact rfl;(· (repeat' constructor)))|(apply Ue;exact rfl;exact Q0 rfl;exact rfl;(· (first|exact ⟨rfl,rfl⟩|exact ⟨rfl,trivial⟩|assumption)))|(apply Uo;exact rfl;exact Q0 rfl;exact rfl;exact rfl)|(apply M_loadVA;exact rfl;exact rfl;exact Q0 rfl;(· (repeat' constructor)))|apply Jd|apply Y7|(apply Qp;exact rfl;exact Q0 rfl)|(apply S_len_sl;exact rfl;exact Q0 rfl)|(apply S_len_str;exact rfl;exact Q0 rfl)|(apply Jk;exact rfl;exact rfl;exact Q0 rfl;exact Q0 rfl)|(apply S_idxSl;exact rfl;exact rfl;exact Q0 rfl;exact rfl;exact Q0 rfl)|apply Qk (f:=176)|apply heldByteS_cv|exact Qa|apply Q3|(apply View.pure;exact Q4.out)|(apply view_slM;exact rfl;(· (apply mlen;first|exact rfl|assumption|exact Nat.le_of_ble_eq_true rfl|omega|(simp [Q1];done)|(simp [Q1];omega)));exact Q6.out)|(apply view_slN;exact rfl;(· (apply mlen;first|exact rfl|assumption|exact Nat.le_of_ble_eq_true rfl|omega|(simp [Q1];done)|(simp [Q1];omega)));exact Q6.out)|(apply view_slE1;exact rfl;(· first|exact rfl|assumption|(simp [Q1];done)|(simp [Q1];omega)|omega))|(apply view_ptr;exact rfl;exact rfl)|apply Uh|apply Ul|exact Q6.out|(apply mtake;first|assumption|exact Ux (by first|rfl|(simp;done))|exact rfl)|exact Jq.out|exact Q0 rfl|exact Ql|(apply Qg;exact Q0 rfl)|exact Q5 rfl rfl|assumption|(apply wrap_i64;omega;omega)|(apply wrap_u8;omega;omega)|exact Nat.le_of_ble_eq_true rfl|(refine ⟨?_,?_⟩<;>omega)|omega|(apply view_rowsR;exact rfl;exact rfl;(· (apply mlen;first|exact rfl|assumption|exact Nat.le_of_ble_eq_true rfl|omega|(simp [Q1];done)|(simp [Q1];omega))))|exact rfl|fail)
 refine Js (α:=Nat) (λ j=>⟨[(0,Y2 (marksR k rows)),(1,.int .i64 (k + (((rows.map List.length).take j).sum:Nat))),(5,.int .i64 j)],[],0⟩)
  (λ j=>rows.length - j) (λ j=>j<=rows.length) 0 ?_ (by omega) ?_
 ·simp only [List.take_zero,List.sum_nil,Int.natCast_zero,Int.add_zero]
  exact ((Jp (by repeat' (first|exact Qy|refine Qr rfl ?_)) (by repeat' (first|exact Qz|refine Qt (by first|rfl|exact congrArg (λ l=>some (Box.mk l _ _ _)) hset) ?_)) (Nat.le_refl _))).sub
 intro j hj
 have hle:=take_sum_le (rows.map List.length) j
 by_cases hjl:j < rows.length
 ·have hc:decide ((j:Int) < (((marksR k rows).map byA).length:Int)) = true:=by simp only [decide_eq_true_eq];omega
  have g:=Uy byA (marksR k rows) [] (k:=j) (by rw [marksR_length];exact hjl)
  rw [marksR_get k rows j hjl] at g
  have hm:(rows.map List.length)[j]? = some (rows.getD j []).length:=by rw [List.getElem?_map,List.getD_eq_getElem?_getD,List.getElem?_eq_getElem hjl];rfl
  have hs:=take_sum hm
  have hle2:=take_sum_le (rows.map List.length) (j + 1)
  generalize ((rows.map List.length).take j).sum = s at *
  generalize (rows.getD j []).length = m at *
  have hw1:IntKind.wrap .i64 ((j:Int) + 1) = ((j + 1:Nat):Int):=by rw [wrap_i64 (by omega) (by omega)];omega
  have c0:=heldByteS_cv m (k + (s:Nat)) (by omega) (by omega) (by omega)
  have e:k + (s:Nat) + (m:Nat) = k + ((s + m:Nat):Int):=by omega
  rw [e] at c0
  have hd:decide (k + ((s + m:Nat):Int) < 0) = false:=by simp only [decide_eq_false_iff_not];omega
  repeat' (first|refine Qh ?_|refine Q9 ?_|refine J8 ?_|refine Ua ?_|refine U9 ?_|refine Ui ?_|refine Jt ?_|refine N_blockX rfl ?_|refine N_againR ?_|refine N_againE ?_|refine Ya ?_|refine Jo ?_|refine Q8 Qc ?_|(apply Ur Qc Uw;(· kernel_rfl))|refine Qi ?_|refine Qw ?_|refine Qu ?_|refine Un ?_|refine Qo ?_|(apply Jr;exact rfl;(· (repeat' (first|exact Qb _ _|exact Qj _|exact Qn _);done)))|(apply E_tmpN;exact rfl;(· (repeat' (first|exact Qb _ _|exact Qj _|exact Qn _);done)))|(apply Jf;exact rfl;(· (first|assumption|exact rfl)))|(apply J9;exact rfl;(· (first|assumption|exact rfl)))|refine T_if rfl (λ _=>?_) (λ _=>?_)|apply Qd|apply Q2|(apply Jj;exact rfl;exact Q0 rfl;(iterate 3 exact rfl);(· (first|exact ⟨rfl,rfl⟩|exact ⟨rfl,trivial⟩|assumption)))|(apply Yc;exact rfl;exact Q0 rfl;(iterate 6 exact rfl))|(apply M_loadA;exact rfl;exact rfl;exact Q0 rfl;exact rfl;exact rfl;(· (repeat' constructor)))|(apply Ue;exact rfl;exact Q0 rfl;exact rfl;(· (first|exact ⟨rfl,rfl⟩|exact ⟨rfl,trivial⟩|assumption)))|(apply Uo;exact rfl;exact Q0 rfl;exact rfl;exact rfl)|(apply M_loadVA;exact rfl;exact rfl;exact Q0 rfl;(· (repeat' constructor)))|apply Jd|apply Y7|(apply Qp;exact rfl;exact Q0 rfl)|(apply S_len_sl;exact rfl;exact Q0 rfl)|(apply S_len_str;exact rfl;exact Q0 rfl)|(apply Jk;exact rfl;exact rfl;exact Q0 rfl;exact Q0 rfl)|(apply S_idxSl;exact rfl;exact rfl;exact Q0 rfl;exact rfl;exact Q0 rfl)|apply Jl (f:=176)|apply c0|exact Qe.out|exact Q4.out|exact Q0 rfl|exact Ql|(apply Qg;exact Q0 rfl)|exact Q5 rfl rfl|assumption|(apply wrap_i64;omega;omega)|(apply wrap_u8;omega;omega)|exact Nat.le_of_ble_eq_true rfl|(refine ⟨?_,?_⟩<;>omega)|omega|exact rfl|fail)
  exact U7 (j + 1) (by rw [hs];exact ((Jp (by repeat' (first|exact Qy|refine Qr rfl ?_)) (by repeat' (first|exact Qz|refine Qt (by first|rfl|exact congrArg (λ l=>some (Box.mk l _ _ _)) hset) ?_)) (Nat.le_refl _))).sub) (by omega) (by omega)
 ·have hc:decide ((j:Int) < (((marksR k rows).map byA).length:Int)) = false:=by simp only [decide_eq_false_iff_not];omega
  have e:(rows.map List.length).take j = rows.map List.length:=List.take_of_length_le (by omega)
  rw [e,hsum]
  repeat' (first|refine Qh ?_|refine Q9 ?_|refine J8 ?_|refine Ua ?_|refine U9 ?_|refine Ui ?_|refine Jt ?_|refine N_blockX rfl ?_|refine N_againR ?_|refine N_againE ?_|refine Ya ?_|refine Jo ?_|refine Q8 Qc ?_|(apply Ur Qc Uw;(· kernel_rfl))|refine Qi ?_|refine Qw ?_|refine Qu ?_|refine Un ?_|refine Qo ?_|(apply Jr;exact rfl;(· (repeat' (first|exact Qb _ _|exact Qj _|exact Qn _);done)))|(apply E_tmpN;exact rfl;(· (repeat' (first|exact Qb _ _|exact Qj _|exact Qn _);done)))|(apply Jf;exact rfl;(· (first|assumption|exact rfl)))|(apply J9;exact rfl;(· (first|assumption|exact rfl)))|refine T_if rfl (λ _=>?_) (λ _=>?_)|apply Qd|apply Q2|(apply Jj;exact rfl;exact Q0 rfl;(iterate 3 exact rfl);(· (first|exact ⟨rfl,rfl⟩|exact ⟨rfl,trivial⟩|assumption)))|(apply Yc;exact rfl;exact Q0 rfl;(iterate 6 exact rfl))|(apply M_loadA;exact rfl;exact rfl;exact Q0 rfl;exact rfl;exact rfl;(· (repeat' constructor)))|(apply Ue;exact rfl;exact Q0 rfl;exact rfl;(· (first|exact ⟨rfl,rfl⟩|exact ⟨rfl,trivial⟩|assumption)))|(apply Uo;exact rfl;exact Q0 rfl;exact rfl;exact rfl)|(apply M_loadVA;exact rfl;exact rfl;exact Q0 rfl;(· (repeat' constructor)))|apply Jd|apply Y7|(apply Qp;exact rfl;exact Q0 rfl)|(apply S_len_sl;exact rfl;exact Q0 rfl)|(apply S_len_str;exact rfl;exact Q0 rfl)|(apply Jk;exact rfl;exact rfl;exact Q0 rfl;exact Q0 rfl)|(apply S_idxSl;exact rfl;exact rfl;exact Q0 rfl;exact rfl;exact Q0 rfl)|apply Qk (f:=176)|apply heldByteS_cv|exact Qa|apply Q3|(apply View.pure;exact Q4.out)|(apply view_slM;exact rfl;(· (apply mlen;first|exact rfl|assumption|exact Nat.le_of_ble_eq_true rfl|omega|(simp [Q1];done)|(simp [Q1];omega)));exact Q6.out)|(apply view_slN;exact rfl;(· (apply mlen;first|exact rfl|assumption|exact Nat.le_of_ble_eq_true rfl|omega|(simp [Q1];done)|(simp [Q1];omega)));exact Q6.out)|(apply view_slE1;exact rfl;(· first|exact rfl|assumption|(simp [Q1];done)|(simp [Q1];omega)|omega))|(apply view_ptr;exact rfl;exact rfl)|apply Uh|apply Ul|exact Q6.out|(apply mtake;first|assumption|exact Ux (by first|rfl|(simp;done))|exact rfl)|exact Jq.out|exact Q0 rfl|exact Ql|(apply Qg;exact Q0 rfl)|exact Q5 rfl rfl|assumption|(apply wrap_i64;omega;omega)|(apply wrap_u8;omega;omega)|exact Nat.le_of_ble_eq_true rfl|(refine ⟨?_,?_⟩<;>omega)|omega|(apply view_rowsR;exact rfl;exact rfl;(· (apply mlen;first|exact rfl|assumption|exact Nat.le_of_ble_eq_true rfl|omega|(simp [Q1];done)|(simp [Q1];omega))))|exact rfl|fail)
end Go.Proofs.YtaolmfgpebncjaaGreat
