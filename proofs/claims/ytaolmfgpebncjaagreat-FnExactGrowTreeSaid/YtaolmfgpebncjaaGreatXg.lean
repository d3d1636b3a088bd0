/- Digests behind a tag, and frames. -/
import Derived.Test.YtaolmfgpebncjaaGreatXf
import Derived.Test.YtaolmfgpebncjaaGreatGi
set_option maxRecDepth 100000
set_option maxHeartbeats 3200000
set_option linter.unusedSimpArgs false
set_option linter.unusedVariables false
namespace Go.Proofs.YtaolmfgpebncjaaGreat
open Go.Av
attribute [local irreducible] T thenQ Uv Y0 Uz WX retV retR Gt Gts GtsP Qs CV CR Av.Pure
attribute [local irreducible] sha
def tagL (s:ByteArray):List UInt8:=byteN s.size::strB s
theorem tagL_length (s:ByteArray):(tagL s).length = s.size + 1:=by simp [tagL,strB_length]
theorem tagged_cr0 (s:ByteArray) (ws:List (List UInt8)) (hs:s.size<=255) (h:ws.flatten.length<=1000000000) (h2:ws.length<=1000000000):CR Tryz.prog 132 [.str s,sl1 (ws.map byA)] [] 0 (Is (.sl 0 0 32 32) [(0,some ⟨bA (sha (tagL s++ws.flatten)),1,true,false⟩)] (0 + 1)):=by
 refine Us Qc Tryz.func132 (by kernel_rfl) rfl 15 rfl (by simp) [.tmp 4] rfl ?_
 intro w0 ok0 wr φ0
 have hl:=listOf_length s
 have hwl:(ws.map byA).length = ws.length:=by simp
 have w1:=byteN_wrap s.size
 have e:([byteN s.size]::strB s::ws).flatten = tagL s++ws.flatten:=by simp [tagL]
 have hsl:=strB_length s
 have c0:=λ N=>digest_cr ([byteN s.size]::strB s::ws) (by rw [e,List.length_append,tagL_length];omega) (by simp;omega) N
 rw [e] at c0
 repeat' (first|refine Qh ?_|refine Q9 ?_|refine Q8 Qc ?_|refine Qi ?_|refine Qu ?_|apply Qd|apply Q2|(apply S_conv;exact rfl;exact rfl;exact Q0 rfl)|(apply S_convSB;(iterate 3 exact rfl);exact Q0 rfl)|(apply S_len_str;exact rfl;exact Q0 rfl)|(apply M_appV;exact rfl;exact rfl;exact Q0 rfl)|(apply S_buildV Qc;exact rfl;exact rfl)|apply S_callI (f:=128)|apply c0|exact Qa|apply Q3|exact viewE_nil|apply viewE_app|apply viewE_one|exact viewE_pure Q6.out|apply view_lsV|(apply View.pure;exact Q4.out)|exact OwnC.out|exact ownB_nil|(apply ownB_boxM;(· (apply mlen;first|exact rfl|assumption|exact Nat.le_of_ble_eq_true rfl|omega|(simp [Q1];done)|(simp [Q1];omega)));exact OwnEC.out)|(apply msz;first|assumption|exact Nat.le_of_ble_eq_true rfl|(dsimp only;simp only [List.length_append,List.length_map,List.length_cons,List.length_nil,Q1,List.length_take,List.length_drop,List.length_replicate] at *;omega)|(dsimp only;omega))|(apply mnorm;first|with_reducible exact app_nil0 _|exact app_norm _ _|exact rfl)|exact Src.ls rfl rfl|(dsimp only;omega)|exact U4|(apply Ug;exact Q0 rfl)|exact Uc|apply Uq|(intro hu;cases hu;done)|exact Q0 rfl|exact Ql|(apply Qg;exact Q0 rfl)|exact Q5 rfl rfl|assumption|exact rfl|fail)
 (apply E_U0 [(0,0)]<;>repeat' (first|exact J4|(apply J3;exact rfl)|(apply Qx;(iterate 6 exact rfl))|(apply J5;(iterate 4 exact rfl);(· (first|assumption|exact rfl)))|exact Ren.sl _ _ _ _|(apply Ub;(· first|exact rfl|omega);(· first|exact rfl|assumption|(simp [Q1];done)|(simp [Q1];omega));(· first|exact rfl|assumption|(simp [Q1];done)|(simp [Q1];omega)))|exact Ren.ptr _ _ _|exact Qf|apply Q7|(apply Ren.pure;exact Q4.out)|apply Qm|apply Qv|exact Low.sl _ _ _ _ (by decide)|exact Low.ptr _ _ _ (by decide)|exact J0|apply Qq|(apply Low.pure;exact Q4.out)|apply U3|apply U2|exact Ji|(apply Jx;exact rfl;(· first|exact rfl|assumption|(simp [bA];done));exact Q6.out)|(apply Jh;exact rfl)|exact Jc|apply J1|(apply Uf.low;exact Q6.out)|apply Ju|exact Jv|exact rfl))
theorem tagged_cr (s:ByteArray) (ws:List (List UInt8)) (hs:s.size<=255) (h:ws.flatten.length<=1000000000) (h2:ws.length<=1000000000) (N:Nat):CR Tryz.prog 132 [.str s,sl1 (ws.map byA)] [] N (Is (.sl N 0 32 32) [(N,some ⟨bA (sha (tagL s++ws.flatten)),1,true,false⟩)] (N + 1)) :=
 CR.allN (tagged_cr0 s ws hs h h2) N (by first|exact Q4.out|exact Qe.out|assumption) (by repeat' (first|exact Ren.sl _ _ _ _|exact Ren.ptr _ _ _|exact Qf|apply Q7|(apply Ren.pure;(first|exact Q4.out|exact Qe.out|assumption))|apply Qm|apply Qv)) (by repeat' (first|exact Jn|(apply Ja;exact rfl;(· (exact Q6.out)))|(apply Jm;exact rfl)|exact Qf|apply Q7|exact Ren.sl _ _ _ _|exact Ren.ptr _ _ _|(apply Ren.pure;(first|exact Q4.out|exact Qe.out|assumption))|apply Qm))
theorem specTagged_cr0 (s:ByteArray) (d:List UInt8) (hs:s.size<=255) (h:d.length<=1000000000):CR Tryz.prog 160 [.str s,sl1 (bA d)] [] 0 (Is (.sl 0 0 32 32) [(0,some ⟨bA (sha (tagL s++d)),1,true,false⟩)] (0 + 1)):=by
 refine Us Qc Tryz.func160 (by kernel_rfl) rfl 16 rfl (by simp) [.tmp 4] rfl ?_
 intro w0 ok0 wr φ0
 have hl:=listOf_length s
 have hdl:=Q1 d
 have w1:=byteN_wrap s.size
 have w0:((s.size:Int)).tmod 256 = ((byteN s.size).toNat:Int):=by rw [<-w1,Int.tmod_eq_emod_of_nonneg (by omega)];simp [IntKind.wrap,IntKind.bits,IntKind.signed]
 have w2:IntKind.wrap .u8 ((byteN s.size).toNat:Int) = ((byteN s.size).toNat:Int):=wrap_u8 (byte_le _).1 (byte_le _).2
 have e:[byteN s.size]++strB s++d = tagL s++d:=by simp [tagL]
 have hsl:=strB_length s
 have c0:=λ N=>specDigest_cr (tagL s++d) (by rw [List.length_append,tagL_length];omega) N
 have hv:([.int .u8 ((byteN s.size).toNat:Int)]++listOf s)++bA d = bA (tagL s++d):=by rw [<-e,<-bA_app,<-bA_app];rfl
 simp only [<-hv] at c0
 repeat' (first|refine Qh ?_|refine Q9 ?_|refine Q8 Qc ?_|refine Qi ?_|refine Qu ?_|apply Qd|apply Q2|(apply S_conv;exact rfl;exact rfl;exact Q0 rfl)|(apply S_convSB;(iterate 3 exact rfl);exact Q0 rfl)|(apply S_len_str;exact rfl;exact Q0 rfl)|(apply S_remW;exact Q0 rfl;exact Q0 rfl;exact rfl;(· (first|exact Nat.le_of_ble_eq_true rfl|omega|decide)))|(apply M_appB;exact rfl;exact rfl;exact Q0 rfl)|(apply S_buildL Qc;(iterate 3 exact rfl))|apply S_callI (f:=171)|apply c0|exact Qa|apply Q3|(apply view_slM;exact rfl;(· (apply mlen;first|exact rfl|assumption|exact Nat.le_of_ble_eq_true rfl|omega|(simp [Q1];done)|(simp [Q1];omega)));exact Q6.out)|exact OwnC.out|exact ownB_nil|(apply ownB_boxM;(· (apply mlen;first|exact rfl|assumption|exact Nat.le_of_ble_eq_true rfl|omega|(simp [Q1];done)|(simp [Q1];omega)));exact OwnEC.out)|(apply mlen;first|exact rfl|assumption|exact Nat.le_of_ble_eq_true rfl|omega|(simp [Q1];done)|(simp [Q1];omega))|(apply msz;first|assumption|exact Nat.le_of_ble_eq_true rfl|(dsimp only;simp only [List.length_append,List.length_map,List.length_cons,List.length_nil,Q1,List.length_take,List.length_drop,List.length_replicate] at *;omega)|(dsimp only;omega))|(apply mnorm;first|with_reducible exact app_nil0 _|exact app_norm _ _|exact rfl)|exact Src.ls rfl rfl|(dsimp only;omega)|exact U4|(apply Ug;exact Q0 rfl)|exact Uc|apply Uq|(intro hu;cases hu;done)|exact Q0 rfl|exact Ql|(apply Qg;exact Q0 rfl)|exact Q5 rfl rfl|assumption|omega|exact rfl|fail)
 (apply E_U0 [(0,3)]<;>repeat' (first|exact J4|(apply J3;exact rfl)|(apply Qx;(iterate 6 exact rfl))|(apply J5;(iterate 4 exact rfl);(· (first|assumption|exact rfl)))|exact Ren.sl _ _ _ _|(apply Ub;(· first|exact rfl|omega);(· first|exact rfl|assumption|(simp [Q1];done)|(simp [Q1];omega));(· first|exact rfl|assumption|(simp [Q1];done)|(simp [Q1];omega)))|exact Ren.ptr _ _ _|exact Qf|apply Q7|(apply Ren.pure;exact Q4.out)|apply Qm|apply Qv|exact Low.sl _ _ _ _ (by decide)|exact Low.ptr _ _ _ (by decide)|exact J0|apply Qq|(apply Low.pure;exact Q4.out)|apply U3|apply U2|exact Ji|(apply Jx;exact rfl;(· first|exact rfl|assumption|(simp [bA];done));exact Q6.out)|(apply Jh;exact rfl)|exact Jc|apply J1|(apply Uf.low;exact Q6.out)|apply Ju|exact Jv|exact rfl))
theorem specTagged_cr (s:ByteArray) (d:List UInt8) (hs:s.size<=255) (h:d.length<=1000000000) (N:Nat):CR Tryz.prog 160 [.str s,sl1 (bA d)] [] N (Is (.sl N 0 32 32) [(N,some ⟨bA (sha (tagL s++d)),1,true,false⟩)] (N + 1)) :=
 CR.allN (specTagged_cr0 s d hs h) N (by first|exact Q4.out|exact Qe.out|assumption) (by repeat' (first|exact Ren.sl _ _ _ _|exact Ren.ptr _ _ _|exact Qf|apply Q7|(apply Ren.pure;(first|exact Q4.out|exact Qe.out|assumption))|apply Qm|apply Qv)) (by repeat' (first|exact Jn|(apply Ja;exact rfl;(· (exact Q6.out)))|(apply Jm;exact rfl)|exact Qf|apply Q7|exact Ren.sl _ _ _ _|exact Ren.ptr _ _ _|(apply Ren.pure;(first|exact Q4.out|exact Qe.out|assumption))|apply Qm))
abbrev recS:ByteArray:=ByteArray.mk #[114,101,99,111,114,100]
def frameL (p:List UInt8):List UInt8:=byteN p.length::(p++(sha (tagL recS++p)).take 4)
end Go.Proofs.YtaolmfgpebncjaaGreat
