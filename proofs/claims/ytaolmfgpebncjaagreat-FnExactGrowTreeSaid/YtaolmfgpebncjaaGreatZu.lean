/- Heads: ways and chains. -/
import Derived.Test.YtaolmfgpebncjaaGreatZs
set_option maxRecDepth 100000
set_option maxHeartbeats 3200000
set_option linter.unusedSimpArgs false
set_option linter.unusedVariables false
namespace Go.Proofs.YtaolmfgpebncjaaGreat
open Go.Av
attribute [local irreducible] T thenQ Uv Y0 Uz WX retV retR Gt Gts GtsP Qs CV CR Av.Pure
attribute [local irreducible] sha zerosL lz8 hdD Jw
abbrev natA (j:Nat):AV:=.int .i64 (j:Int)
instance:ElemF natA:=⟨λ a y hy=>by simp [natA,AV.cells] at hy;subst hy;exact ⟨Qb _ _,rfl⟩⟩
instance:OwnF natA:=⟨λ a y hy=>by simp [natA,AV.cells] at hy;subst hy;exact (flat_int _ _).own⟩
def revAt (l:List Nat) (i:Nat):List Nat:=(List.range l.length).map λ p=>if p < i∨l.length - i<=p then l.getD (l.length - 1 - p) 0 else l.getD p 0
theorem revAt_length (l:List Nat) (i:Nat):(revAt l i).length = l.length:=by simp [revAt]
theorem revAt_get (l:List Nat) (i:Nat) {p:Nat} (h:p < l.length):(revAt l i)[p]? = some (if p < i∨l.length - i<=p then l.getD (l.length - 1 - p) 0 else l.getD p 0):=by
 unfold revAt
 rw [List.getElem?_map,List.getElem?_range h]
 rfl
theorem revAt_zero (l:List Nat):revAt l 0 = l:=by
 apply List.ext_getElem?
 intro p
 by_cases h:p < l.length
 ·rw [revAt_get l 0 h,if_neg (by omega),List.getD_eq_getElem?_getD,List.getElem?_eq_getElem h];rfl
 ·rw [List.getElem?_eq_none (by rw [revAt_length];omega),List.getElem?_eq_none (by omega)]
theorem revAt_all (l:List Nat) {i:Nat} (h:l.length<=2 * i + 1):revAt l i = l.reverse:=by
 apply List.ext_getElem?
 intro p
 by_cases hp:p < l.length
 ·rw [revAt_get l i hp,List.getElem?_reverse hp]
  have e:l[l.length - 1 - p]? = some (l.getD (l.length - 1 - p) 0):=by
   rw [List.getD_eq_getElem?_getD,List.getElem?_eq_getElem (by omega)];rfl
  rw [e]
  by_cases q:p < i∨l.length - i<=p
  ·rw [if_pos q]
  ·rw [if_neg q]
   have:l.length - 1 - p = p:=by omega
   rw [this]
 ·rw [List.getElem?_eq_none (by rw [revAt_length];omega),List.getElem?_eq_none (by rw [List.length_reverse];omega)]
theorem revAt_step (l:List Nat) {i:Nat} (h:2 * i + 1 < l.length):((revAt l i).set i (l.getD (l.length - 1 - i) 0)).set (l.length - 1 - i) (l.getD i 0) = revAt l (i + 1):=by
 apply List.ext_getElem?
 intro p
 by_cases hp:p < l.length
 ·rw [revAt_get l (i + 1) hp,List.getElem?_set,List.getElem?_set,revAt_get l i hp,revAt_length,List.length_set,revAt_length]
  by_cases h1:l.length - 1 - i = p
  ·rw [if_pos h1,if_pos (by omega),if_pos (by omega)]
   have:l.length - 1 - p = i:=by omega
   rw [this]
  ·rw [if_neg h1]
   by_cases h2:i = p
   ·rw [if_pos h2,if_pos (by omega),if_pos (by omega),h2]
   ·rw [if_neg h2]
    by_cases h3:p < i∨l.length - i<=p
    ·rw [if_pos h3,if_pos (by omega)]
    ·rw [if_neg h3,if_neg (by omega)]
 ·rw [List.getElem?_eq_none (by rw [List.length_set,List.length_set,revAt_length];omega),List.getElem?_eq_none (by rw [revAt_length];omega)]
theorem revAt_mid (l:List Nat) {i p:Nat} (h:i<=p) (h2:p < l.length - i):(revAt l i).getD p 0 = l.getD p 0:=by
 rw [List.getD_eq_getElem?_getD,revAt_get l i (by omega),if_neg (by omega)]
 rfl
theorem natA_get (l:List Nat) {p:Nat} (h:p < l.length):(l.map natA)[p]? = some (natA (l.getD p 0)):=by
 simp [List.getD_eq_getElem?_getD,List.getElem?_map,List.getElem?_eq_getElem h]
theorem natA_set (l:List Nat) (p v:Nat):(l.map natA).set p (natA v) = (l.set p v).map natA:=by rw [List.map_set]
theorem reverse_cr (l:List Nat) (h:l.length<=1000000):CR Tryz.prog 118 [.sl 0 0 l.length l.length] [(0,some ⟨l.map natA,1,true,false⟩)] 1 (Is (.tup []) [(0,some ⟨l.reverse.map natA,1,true,false⟩)] 1):=by
 refine Us Qc Tryz.func118 (by kernel_rfl) rfl 28 rfl (by simp) [] rfl ?_
 intro w0 ok0 wr φ0
 have w0:IntKind.wrap .i64 ((l.length:Int) - 1) = (l.length:Int) - 1 - (0:Nat):=by rw [wrap_i64 (by omega) (by omega)];omega
 have z0:l.map natA = (revAt l 0).map natA:=by rw [revAt_zero]
 rw [z0]
 repeat' (first|refine Qh ?_|refine Q9 ?_|refine Q8 Qc ?_|refine Qi ?_|refine Qo ?_|apply Qd|apply Q2|apply S_sub|(apply S_len_sl;exact rfl;exact Q0 rfl)|exact Q0 rfl|assumption|exact rfl|fail)
 refine Js (α:=Nat) (λ i=>⟨[(0,.sl 0 0 l.length l.length),(2,.int .i64 i),(3,.int .i64 ((l.length:Int) - 1 - (i:Int)))],[(0,some ⟨(revAt l i).map natA,1,true,false⟩)],1⟩)
  (λ i=>l.length - i) (λ i=>2 * i<=l.length + 1) 0 ((Jp (by repeat' (first|exact Qy|refine Qr rfl ?_)) (by repeat' (first|exact Qz|refine Qt (by first|rfl|exact congrArg (λ l=>some (Box.mk l _ _ _)) hset) ?_)) (Nat.le_refl _))).sub (by omega) ?_
 intro i hi
 have hm:((revAt l i).map natA).length = l.length:=by rw [List.length_map,revAt_length]
 by_cases hil:2 * i + 1 < l.length
 ·have d1:decide ((i:Int) < (l.length:Int) - 1 - (i:Int)) = true:=decide_eq_true (by omega)
  have e1:((l.length:Int) - 1 - (i:Int)).toNat = l.length - 1 - i:=by omega
  have r0:(0:Int)<=(l.length:Int) - 1 - (i:Int)/\(l.length:Int) - 1 - (i:Int) < (l.length:Int):=by omega
  have g1:((revAt l i).map natA)[0 + ((i:Int)).toNat]? = some (natA (l.getD i 0)):=by
   rw [Nat.zero_add,Int.toNat_natCast,natA_get _ (by rw [revAt_length];omega),revAt_mid l (by omega) (by omega)]
  have g2:((revAt l i).map natA)[0 + ((l.length:Int) - 1 - (i:Int)).toNat]? = some (natA (l.getD (l.length - 1 - i) 0)):=by
   rw [Nat.zero_add,e1,natA_get _ (by rw [revAt_length];omega),revAt_mid l (by omega) (by omega)]
  have hset:(((revAt l i).map natA).set (0 + ((i:Int)).toNat) (natA (l.getD (l.length - 1 - i) 0))).set (0 + ((l.length:Int) - 1 - (i:Int)).toNat) (natA (l.getD i 0)) = (revAt l (i + 1)).map natA:=by
   rw [Nat.zero_add,Nat.zero_add,Int.toNat_natCast,e1,natA_set,natA_set,revAt_step l hil]
  have i1:0 + ((i:Int)).toNat < ((revAt l i).map natA).length:=by rw [hm];omega
  have i2:0 + ((l.length:Int) - 1 - (i:Int)).toNat < (((revAt l i).map natA).set (0 + ((i:Int)).toNat) (natA (l.getD (l.length - 1 - i) 0))).length:=by rw [List.length_set,hm];omega
  have w1:IntKind.wrap .i64 ((i:Int) + 1) = ((i + 1:Nat):Int):=by rw [wrap_i64 (by omega) (by omega)];omega
  have w2:IntKind.wrap .i64 ((l.length:Int) - 1 - (i:Int) - 1) = (l.length:Int) - 1 - ((i + 1:Nat):Int):=by rw [wrap_i64 (by omega) (by omega)];omega
  repeat' (first|refine Qh ?_|refine Q9 ?_|refine U9 ?_|refine Q8 Qc ?_|(apply T_drawW (id:=3) 14 (λ k=>[13].contains k) Qc Uw;(iterate 3 exact rfl);(· kernel_rfl);(· kernel_rfl);exact Nat.le_of_ble_eq_true rfl;(· kernel_rfl))|refine Qi ?_|refine Qw ?_|refine Qo ?_|(apply M_loadP;exact rfl;exact Q0 rfl;exact rfl;(· (repeat' (first|assumption|apply get_set_same)));exact rfl;(· (first|exact ⟨rfl,rfl⟩|exact ⟨rfl,trivial⟩|assumption)))|(apply Jf;exact rfl;(· (first|assumption|exact rfl)))|apply Qd|apply Q2|apply Jd|apply Y7|apply S_sub|(apply S_idxSl;exact rfl;exact rfl;exact Q0 rfl;exact rfl;exact Q0 rfl)|(apply S_storeE;exact rfl;exact Q0 rfl;(iterate 3 exact rfl))|(apply L_storeE Qc;exact rfl;exact Q0 rfl;(iterate 3 exact rfl))|exact Q0 rfl|exact Q5 rfl rfl|assumption|(refine ⟨?_,?_⟩<;>omega)|exact rfl|fail)
  exact U7 (i + 1) ((Jp (by repeat' (first|exact Qy|refine Qr rfl ?_)) (by repeat' (first|exact Qz|refine Qt (by first|rfl|exact congrArg (λ l=>some (Box.mk l _ _ _)) hset) ?_)) (Nat.le_refl _))).sub (by omega) (by omega)
 ·have d1:decide ((i:Int) < (l.length:Int) - 1 - (i:Int)) = false:=decide_eq_false (by omega)
  rw [revAt_all l (by omega)]
  repeat' (first|refine Qh ?_|refine Q9 ?_|refine Ua ?_|refine Jt ?_|refine Jo ?_|refine Q8 Qc ?_|refine Qi ?_|refine Un ?_|(apply J9;exact rfl;(· (first|assumption|exact rfl)))|apply Qd|apply Jd|exact Q0 rfl|exact rfl|fail)
  refine retR_normal ?_
  (apply E_U0 [(0,0)]<;>repeat' (first|exact J4|(apply J3;exact rfl)|(apply Qx;(iterate 6 exact rfl))|(apply J5;(iterate 4 exact rfl);(· (first|assumption|exact rfl)))|exact Ren.sl _ _ _ _|(apply Ub;(· first|exact rfl|omega);(· first|exact rfl|assumption|(simp [Q1];done)|(simp [Q1];omega));(· first|exact rfl|assumption|(simp [Q1];done)|(simp [Q1];omega)))|exact Ren.ptr _ _ _|exact Qf|apply Q7|(apply Ren.pure;exact Q4.out)|apply Qm|apply Qv|exact Low.sl _ _ _ _ (by decide)|exact Low.ptr _ _ _ (by decide)|exact J0|apply Qq|(apply Low.pure;exact Q4.out)|apply U3|apply U2|exact Ji|(apply Jx;exact rfl;(· first|exact rfl|assumption|(simp [bA];done));exact Q6.out)|(apply Jh;exact rfl)|exact Jc|apply J1|(apply Uf.low;exact Q6.out)|apply Ju|exact Jv|exact rfl))
theorem reverse_at (l:List Nat) (h:l.length<=1000000) (id N:Nat) (hid:id < N):CR Tryz.prog 118 [.sl id 0 l.length l.length] [(id,some ⟨l.map natA,1,true,false⟩)] N (Is (.tup []) [(id,some ⟨l.reverse.map natA,1,true,false⟩)] N) :=
 (CR.toI (reverse_cr l h) [id] rfl (by simp [*]<;>omega) _ (by simp [*]<;>omega) (by repeat' (first|exact Ren.sl _ _ _ _|exact Ren.ptr _ _ _|exact Qf|apply Q7|(apply Ren.pure;exact Q4.out)|apply Qm|apply Qv|exact Jn|(apply Ja;exact rfl;exact Q6.out)|(apply Jm;exact rfl))) (by repeat' (first|exact Ren.sl _ _ _ _|exact Ren.ptr _ _ _|exact Qf|apply Q7|(apply Ren.pure;exact Q4.out)|apply Qm|apply Qv|exact Jn|(apply Ja;exact rfl;exact Q6.out)|(apply Jm;exact rfl))) (by omega) (by repeat' (first|exact Ren.sl _ _ _ _|exact Ren.ptr _ _ _|exact Qf|apply Q7|(apply Ren.pure;exact Q4.out)|apply Qm|apply Qv|exact Jn|(apply Ja;exact rfl;exact Q6.out)|(apply Jm;exact rfl))) (by repeat' (first|exact Ren.sl _ _ _ _|exact Ren.ptr _ _ _|exact Qf|apply Q7|(apply Ren.pure;exact Q4.out)|apply Qm|apply Qv|exact Jn|(apply Ja;exact rfl;exact Q6.out)|(apply Jm;exact rfl))))
end Go.Proofs.YtaolmfgpebncjaaGreat
set_option maxRecDepth 100000
set_option maxHeartbeats 3200000
set_option linter.unusedSimpArgs false
set_option linter.unusedVariables false
namespace Go.Proofs.YtaolmfgpebncjaaGreat
open Go.Av
attribute [local irreducible] T thenQ Uv Y0 Uz WX retV retR Gt Gts GtsP Qs CV CR Av.Pure
attribute [local irreducible] sha zerosL lz8 hdD Jw
def parI (hs:List Hd) (i:Nat):Int:=Yh ((hs.take i).map hdD) (hs.getD i Hd0).parent
theorem parI_range (hs:List Hd) (i:Nat) (h:i<=hs.length):parI hs i = -1∨(0<=parI hs i/\parI hs i < i):=by
 have h1:=place_range ((hs.take i).map hdD) (hs.getD i Hd0).parent
 rw [List.length_map,List.length_take,Nat.min_eq_left h] at h1
 exact h1
def wayGo (hs:List Hd):Nat->Nat->List Nat
 | 0,i=>[i]
 | f + 1,i=>if i = 0 then [0] else i::wayGo hs f (parI hs i).toNat
def wayD (hs:List Hd) (i:Nat):List Nat:=wayGo hs i i
theorem wayGo_eq (hs:List Hd):∀ (f g i:Nat),i < hs.length->i<=f->i<=g->wayGo hs f i = wayGo hs g i
 | 0,0,i,_,_,_=>rfl
 | 0,g + 1,i,_,h,_=>by
   obtain rfl:i = 0:=by omega
   rfl
 | f + 1,0,i,_,_,h=>by
   obtain rfl:i = 0:=by omega
   rfl
 | f + 1,g + 1,i,hl,h1,h2=>by
   rw [wayGo,wayGo]
   by_cases h0:i = 0
   ·rw [if_pos h0,if_pos h0]
   ·rw [if_neg h0,if_neg h0]
    have:=parI_range hs i (by omega)
    rw [wayGo_eq hs f g _ (by omega) (by omega) (by omega)]
theorem wayD_zero (hs:List Hd):wayD hs 0 = [0]:=rfl
theorem wayD_step (hs:List Hd) {i:Nat} (h:i < hs.length) (h0:i≠0):wayD hs i = i::wayD hs (parI hs i).toNat:=by
 have h1:=parI_range hs i (by omega)
 unfold wayD
 obtain ⟨f,rfl⟩:∃ f,i = f + 1:=⟨i - 1,by omega⟩
 rw [wayGo,if_neg h0,wayGo_eq hs f _ _ (by omega) (by omega) (Nat.le_refl _)]
theorem wayGo_le (hs:List Hd):∀ (f i:Nat),i < hs.length->(wayGo hs f i).length<=f + 1/\∀ j∈wayGo hs f i,j<=i
 | 0,i,_=>by simp [wayGo]
 | f + 1,i,hl=>by
   rw [wayGo]
   split
   ·simp
   ·have h1:=parI_range hs i (by omega)
    obtain ⟨h2,h3⟩:=wayGo_le hs f (parI hs i).toNat (by omega)
    refine ⟨by simp;omega,λ j hj=>?_⟩
    rcases List.mem_cons.1 hj with rfl|hj
    ·omega
    ·have:=h3 j hj;omega
theorem wayD_le (hs:List Hd) {i:Nat} (h:i < hs.length):(wayD hs i).length<=i + 1:=(wayGo_le hs i i h).1
theorem wayD_mem (hs:List Hd) {i j:Nat} (h:i < hs.length) (hj:j∈wayD hs i):j<=i:=(wayGo_le hs i i h).2 j hj
theorem wayD_pos (hs:List Hd) (i:Nat):0 < (wayD hs i).length:=by
 unfold wayD
 cases i with
 | zero=>exact Nat.zero_lt_one
 | succ f=>rw [wayGo];split<;>simp
def Joined (hs:List Hd):Prop:=(∀ x∈hs,Jw x = 0)/\∀ i,0 < i->i < hs.length->0<=parI hs i
attribute [local irreducible] wayD parI
theorem chainTo_cr0 (hs:List Hd) (i:Nat) (hJ:Joined hs) (hi:i < hs.length) (hl:hs.length<=1000000):CR Tryz.prog 58 [hdAS hs,.int .i64 (i:Int)] [] 0 (Is (.sl 0 0 (wayD hs i).length (wayD hs i).length) [(0,some ⟨(wayD hs i).reverse.map natA,1,true,false⟩)] (0 + 1)):=by
 refine Us Qc Tryz.func58 (by kernel_rfl) rfl 24 rfl (by simp) [.tmp 4] rfl ?_
 intro w0 ok0 wr φ0
 have hml:(hs.map hdA).length = hs.length:=by simp
 repeat' (first|refine Qh ?_|refine Q9 ?_|refine Q8 Qc ?_|refine Qi ?_|refine Qo ?_|apply Q2|(apply S_buildL Qc (ps:=[]);(iterate 3 exact rfl))|(dsimp only;omega)|exact U4|exact Uc|exact Q0 rfl|exact rfl|fail)
 refine Js (α:=List Nat×Nat×Nat) (λ s=>⟨[(0,hdAS hs),(1,.int .i64 (s.2.1:Int)),(5,.sl 0 0 s.2.2 s.2.2)],[(0,some ⟨s.1.map natA,1,true,false⟩)],1⟩)
  (λ s=>s.2.1) (λ s=>s.2.1 < hs.length/\s.2.2 + s.2.1<=i/\s.1.length = s.2.2/\wayD hs i = s.1++wayD hs s.2.1) ([],i,0) ((Jp (by repeat' (first|exact Qy|refine Qr rfl ?_)) (by repeat' (first|exact Qz|refine Qt (by first|rfl|exact congrArg (λ l=>some (Box.mk l _ _ _)) hset) ?_)) (Nat.le_refl _))).sub ⟨hi,by simp,rfl,rfl⟩ ?_
 rintro ⟨acc,c,n⟩ ⟨hc,hal,hn,hI⟩
 simp only at hc hal hn hI ⊢
 have hbl:(acc.map natA).length = n:=by rw [List.length_map,hn]
 have hset:acc.map natA++[.int .i64 (c:Int)] = (acc++[c]).map natA:=by simp
 by_cases h0:c = 0
 ·have d0:decide ((c:Int) = 0) = true:=decide_eq_true (by omega)
  have hI2:wayD hs i = acc++[c]:=by rw [hI,h0,wayD_zero]
  have e3:(wayD hs i).length = n + 1:=by rw [hI2];simp [hn]
  have c0:∀ (id N:Nat),id < N->(CR Tryz.prog 118 [.sl id 0 (n + 1) (n + 1)] [(id,some ⟨acc.map natA++[.int .i64 (c:Int)],1,true,false⟩)] N (Is (.tup []) [(id,some ⟨(wayD hs i).reverse.map natA,1,true,false⟩)] N)):=λ id N hid=>by
   have:=reverse_at (wayD hs i) (by omega) id N hid
   rw [e3] at this
   rw [hset,<-hI2]
   exact this
  rw [e3]
  repeat' (first|refine Qh ?_|refine Q9 ?_|refine J8 ?_|refine Ui ?_|refine Ya ?_|refine Q8 Qc ?_|refine Qi ?_|refine Qu ?_|refine Qo ?_|(apply Jf;exact rfl;(· (first|assumption|exact rfl)))|apply Qd|apply Q2|(apply S_eql;exact Q0 rfl;exact Q0 rfl)|(apply M_appB;exact rfl;exact rfl;exact Q0 rfl)|(apply S_buildV Qc;exact rfl;exact rfl)|(apply S_callL ([1]);(· repeat' (first|exact Ql|exact Q0 rfl|apply Qg));exact rfl;(· (apply c0)<;>first|assumption|decide|omega))|(apply mlen;first|exact rfl|assumption|exact Nat.le_of_ble_eq_true rfl|omega|(simp [Q1];done)|(simp [Q1];omega))|(apply msz;first|assumption|exact Nat.le_of_ble_eq_true rfl|(dsimp only;simp only [List.length_append,List.length_map,List.length_cons,List.length_nil,Q1,List.length_take,List.length_drop,List.length_replicate] at *;omega)|(dsimp only;omega))|(apply mnorm;first|with_reducible exact app_nil0 _|exact app_norm _ _|exact rfl)|exact Src.ls rfl rfl|(dsimp only;omega)|exact U4|(apply Ug;exact Q0 rfl)|exact Uc|apply Uq|(intro hu;cases hu;done)|exact Q0 rfl|exact Q5 rfl rfl|exact rfl|fail)
  (apply E_U0 [(0,1)]<;>repeat' (first|exact J4|(apply J3;exact rfl)|(apply Qx;(iterate 6 exact rfl))|(apply J5;(iterate 4 exact rfl);(· (first|assumption|exact rfl)))|exact Ren.sl _ _ _ _|(apply Ub;(· first|exact rfl|omega);(· first|exact rfl|assumption|(simp [Q1];done)|(simp [Q1];omega));(· first|exact rfl|assumption|(simp [Q1];done)|(simp [Q1];omega)))|exact Ren.ptr _ _ _|exact Qf|apply Q7|(apply Ren.pure;exact Q4.out)|apply Qm|apply Qv|exact Low.sl _ _ _ _ (by decide)|exact Low.ptr _ _ _ (by decide)|exact J0|apply Qq|(apply Low.pure;exact Q4.out)|apply U3|apply U2|exact Ji|(apply Jx;exact rfl;(· first|exact rfl|assumption|(simp [bA];done));exact Q6.out)|(apply Jh;exact rfl)|exact Jc|apply J1|(apply Uf.low;exact Q6.out)|apply Ju|exact Jv|exact rfl))
 ·have d0:decide ((c:Int) = 0) = false:=decide_eq_false (by omega)
  have hp:=parI_range hs c (by omega)
  have hp0:=hJ.2 c (by omega) hc
  have hget:=Uy hdA hs Hd0 (k:=c) (by omega)
  have t1:=map_takeF hdA hs c
  have c1:=parentOf_cv (hs.take c) (hs.getD c Hd0) (by rw [List.length_take];omega) (λ x hx=>hJ.1 x (List.mem_of_mem_take hx))
  have e2:Yh ((hs.take c).map hdD) (hs.getD c Hd0).parent = (((parI hs c).toNat:Nat):Int):=by
   have:Yh ((hs.take c).map hdD) (hs.getD c Hd0).parent = parI hs c:=by unfold parI;rfl
   rw [this];omega
  rw [e2] at c1
  rw [wayD_step hs hc h0] at hI
  repeat' (first|refine Qh ?_|refine Q9 ?_|refine U9 ?_|refine Q8 Qc ?_|(apply T_drawM (id:=6) 7 Qc Uw;exact rfl;exact rfl;(· kernel_rfl);exact Nat.le_of_ble_eq_true rfl)|refine Qi ?_|refine Qw ?_|refine Qo ?_|(apply J9;exact rfl;(· (first|assumption|exact rfl)))|apply Qd|apply Q2|(apply Uo;exact rfl;exact Q0 rfl;exact rfl;exact rfl)|(apply S_eql;exact Q0 rfl;exact Q0 rfl)|(apply Jk;exact rfl;exact rfl;exact Q0 rfl;exact Q0 rfl)|(apply M_appB;exact rfl;exact rfl;exact Q0 rfl)|(apply S_buildV Qc;exact rfl;exact rfl)|(apply M_slLs;exact rfl;exact rfl;exact Q0 rfl;exact rfl)|apply Qk (f:=119)|apply c1|exact Qa|apply Q3|(apply View.pure;exact Q4.out)|(apply mtake;first|assumption|exact Ux (by first|rfl|(simp;done))|exact rfl)|exact Jq.out|(apply mlen;first|exact rfl|assumption|exact Nat.le_of_ble_eq_true rfl|omega|(simp [Q1];done)|(simp [Q1];omega))|(apply msz;first|assumption|exact Nat.le_of_ble_eq_true rfl|(dsimp only;simp only [List.length_append,List.length_map,List.length_cons,List.length_nil,Q1,List.length_take,List.length_drop,List.length_replicate] at *;omega)|(dsimp only;omega))|(apply mnorm;first|with_reducible exact app_nil0 _|exact app_norm _ _|exact rfl)|(apply mtake;first|assumption|exact Ux (by first|rfl|(simp;done))|exact rfl)|exact Src.ls rfl rfl|(dsimp only;omega)|(apply mnat;first|exact Int.toNat_natCast _|exact rfl)|exact Bd.no _|(apply bd_at;exact Q0 rfl)|exact U4|(apply Ug;exact Q0 rfl)|exact Uc|apply Uq|(intro hu;cases hu;done)|exact Q0 rfl|exact Ql|(apply Qg;exact Q0 rfl)|exact Q5 rfl rfl|assumption|(refine ⟨?_,?_⟩<;>omega)|omega|exact rfl|fail)
  exact U7 (acc++[c],(parI hs c).toNat,n + 1) (sub_names [(0,1)] (k0:=0) rfl (by rfl) (by repeat' (first|exact pullE_nil|(apply Yl;exact rfl)|exact Ren.sl _ _ _ _|(apply Ub;(· first|exact rfl|omega);(· first|exact rfl|assumption|(simp [Q1];done)|(simp [Q1];omega));(· first|exact rfl|assumption|(simp [Q1];done)|(simp [Q1];omega)))|exact Ren.ptr _ _ _|(apply Ren.pure;(first|exact Q4.out|exact Qe.out|assumption))|exact Qf|apply Q7|apply Qm|apply Qv)) (by repeat' (first|exact Ji|(apply Yj;(· first|exact rfl|exact congrArg (λ l=>some (Box.mk l _ _ _)) hset);(· (exact Q6.out)))|(apply Jh;exact rfl)|exact Qf|apply Q7|exact Ren.sl _ _ _ _|exact Ren.ptr _ _ _|(apply Ren.pure;(first|exact Q4.out|exact Qe.out|assumption))|apply Qm)) (by repeat' (first|exact lowE_nil|apply Ye|exact Low.sl _ _ _ _ (by decide)|exact Low.ptr _ _ _ (by decide)|(apply Low.pure;(first|exact Q4.out|exact Qe.out|assumption))|exact J0|apply Qq|apply U3|apply U2)) (by repeat' (first|exact Jc|apply J1|(apply Uf.low;(exact Q6.out))|apply Ju|exact Jv|exact J0|apply Qq|exact Low.sl _ _ _ _ (by decide)|exact Low.ptr _ _ _ (by decide)|(apply Low.pure;(first|exact Q4.out|exact Qe.out|assumption))))) ⟨by simp only;omega,by simp only;omega,by simp [hn],by rw [hI];simp⟩ (by simp only;omega)
theorem chainTo_cr (hs:List Hd) (i:Nat) (hJ:Joined hs) (hi:i < hs.length) (hl:hs.length<=1000000) (N:Nat):CR Tryz.prog 58 [hdAS hs,.int .i64 (i:Int)] [] N (Is (.sl N 0 (wayD hs i).length (wayD hs i).length) [(N,some ⟨(wayD hs i).reverse.map natA,1,true,false⟩)] (N + 1)) :=
 CR.allN (chainTo_cr0 hs i hJ hi hl) N (by first|exact Q4.out|exact Qe.out|assumption) (by repeat' (first|exact Ren.sl _ _ _ _|exact Ren.ptr _ _ _|exact Qf|apply Q7|(apply Ren.pure;(first|exact Q4.out|exact Qe.out|assumption))|apply Qm|apply Qv)) (by repeat' (first|exact Jn|(apply Ja;exact rfl;(· (exact Q6.out)))|(apply Jm;exact rfl)|exact Qf|apply Q7|exact Ren.sl _ _ _ _|exact Ren.ptr _ _ _|(apply Ren.pure;(first|exact Q4.out|exact Qe.out|assumption))|apply Qm))
end Go.Proofs.YtaolmfgpebncjaaGreat
