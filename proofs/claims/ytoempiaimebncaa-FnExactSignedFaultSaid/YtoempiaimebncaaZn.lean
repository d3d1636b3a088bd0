/- Signed heads: their faults. -/
import Derived.Test.YtoempiaimebncaaZk
import Derived.Test.YtoempiaimebncaaZg
import Derived.Test.YtoempiaimebncaaRf
set_option maxRecDepth 100000
set_option maxHeartbeats 3200000
set_option linter.unusedSimpArgs false
set_option linter.unusedVariables false
namespace Go.Proofs.Ytoempiaimebncaa
open Go.Av
attribute [local irreducible] T thenQ blockQ againQ againS WX retV retR Gt Gts GtsP okCells CV CR Av.Pure
attribute [local irreducible] sha

/-- The words of a head of the second chain. -/
def hbW (x : HdB) : List (List UInt8) := [putN x.height, putN x.time, x.root, x.set, x.next]
def hbD (x : HdB) : List UInt8 := sha (tagL bftS ++ packL (hbW x))
theorem hbD_length (x : HdB) : (hbD x).length = 32 := sha_length _
theorem hbW_pack {x : HdB} (h : hbFault x = 0) : (hbW x).length = 5 ∧ (∀ w ∈ hbW x, w.length ≤ 32) ∧ (packL (hbW x)).length ≤ 165 := by
  obtain ⟨⟨h1, h2, h3⟩, _⟩ := hb_zero h
  have hm : ∀ w ∈ hbW x, w.length ≤ 32 := by
    intro w hw
    simp only [hbW, List.mem_cons, List.not_mem_nil, or_false] at hw
    rcases hw with rfl | rfl | rfl | rfl | rfl
    · rw [putN_length]; decide
    · rw [putN_length]; decide
    · omega
    · omega
    · omega
  have := packL_bound hm
  have h5 : (hbW x).length = 5 := rfl
  rw [h5] at this
  exact ⟨rfl, hm, this⟩

attribute [local irreducible] putN packL setD

theorem hbDigest_cv (x : HdB) (h : hbFault x = 0) : CV Try.prog 29 [hdbA x] (· = sl1 (bA (hbD x))) := by
  refine CV_intro tyOk Try.func29 (by kernel_rfl) rfl 19 rfl (by simp) [.tmp 2] rfl ?_
  intro w0 ok0
  obtain ⟨h1, h2, h3⟩ := hbW_pack h
  have c0 := number_cv x.height
  have c1 := number_cv x.time
  have c2 := pack_cv (hbW x) (by omega) (fun w hw => by have := h2 w hw; omega) (by omega)
  have c3 : CV Try.prog 52 [.ls 1 false true [byA (putN x.height), byA (putN x.time), byA x.root, byA x.set, byA x.next]] (· = sl1 (bA (packL (hbW x)))) := c2.args rfl (loose1 (loose_ls _ _ _ _))
  have e : [packL (hbW x)].flatten = packL (hbW x) := by simp
  have c4 := tagged_cv bftS [packL (hbW x)] (by decide) (by rw [e]; omega) (by simp)
  rw [e] at c4
  have hD : sha (tagL bftS ++ packL (hbW x)) = hbD x := rfl
  rw [hD] at c4
  clear e hD c2
  generalize packL (hbW x) = P at *
  have c5 : CV Try.prog 51 [.str bftS, .ls 1 false true [byA P]] (· = sl1 (bA (hbD x))) := c4.args rfl (loose2 (Loose.refl _) (loose_ls _ _ _ _))
  repeat' (first | refine T_seq ?_ | refine N_then ?_ | refine T_regX tyOk ?_ | (apply T_drawM (id := 1) 12 tyOk mixed; (· exact rfl); (· exact rfl); (· kernel_rfl); (· exact Nat.le_of_ble_eq_true rfl)) | refine S_nil ?_ | refine T_ret ?_ | (apply E_X <;> repeat' (first | exact resL_nil | (apply resL_tmp; (· exact rfl)) | (apply resL_cell; (· exact rfl); (· exact rfl); (· exact rfl); (· exact rfl); (· exact rfl); (· exact rfl)) | (apply resL_arr; (· exact rfl); (· exact rfl); (· exact rfl); (· exact rfl); (· (first | assumption | exact rfl))) | exact viewL_nil | apply viewL_cons | apply view_nothingE | (apply view_slE; (· exact rfl); (· first | exact rfl | assumption | (simp [bA_length]; done) | (simp [bA_length]; omega) | omega); (· exact PureEC.out)) | (apply view_loose; (· exact PureEC.out)) | apply view_agg | apply view_tup | (apply View.ofEq; (· exact PureC.out)) | exact rfl)) | apply S_assign | (apply S_loadP; (· exact rfl); (· exact gt_any rfl); (· exact rfl); (· exact rfl); (· exact rfl); (· (first | exact ⟨rfl, rfl⟩ | exact ⟨rfl, trivial⟩ | assumption))) | (apply S_fieldP; (· exact rfl); (· exact rfl); (· exact rfl); (· exact rfl); (· exact gt_any rfl)) | apply S_box | (apply S_buildV tyOk; (· exact rfl); (· exact rfl)) | apply S_call (f := 50) | apply c0 | apply c1 | apply S_call (f := 52) | apply c3 | apply S_call (f := 51) | apply c5 | exact PureLC.out | exact gtsI_nil | (apply gtsI_cons; (· exact gt_any rfl)) | exact elts_nil | apply elts_cons | (intro hu; cases hu; done) | exact gt_any rfl | exact gts_nil | (apply gts_cons; (· exact gt_any rfl)) | exact okCells_of rfl rfl | assumption | exact Nat.le_of_ble_eq_true rfl | exact rfl | fail)

theorem specHbDigest_cv (x : HdB) (h : hbFault x = 0) : CV Try.prog 19 [hdbA x] (· = sl1 (bA (hbD x))) := by
  refine CV_intro tyOk Try.func19 (by kernel_rfl) rfl 21 rfl (by simp) [.tmp 2] rfl ?_
  intro w0 ok0
  obtain ⟨h1, h2, h3⟩ := hbW_pack h
  have k0 := specHbFault_cv x
  rw [h] at k0
  have d0 : (!decide ((0 : Int) = 0)) = false := rfl
  have c0 := l1Put_cv x.height
  have c1 := l1Put_cv x.time
  have c2 := l1Pack_cv (hbW x) (by omega) (by omega)
  have c3 : CV Try.prog 40 [.ls 1 false true [byA (putN x.height), byA (putN x.time), byA x.root, byA x.set, byA x.next]] (· = sl1 (bA (packL (hbW x)))) := c2.args rfl (loose1 (loose_ls _ _ _ _))
  have c4 := specTagged_cv bftS (packL (hbW x)) (by decide) (by omega)
  have hD : sha (tagL bftS ++ packL (hbW x)) = hbD x := rfl
  rw [hD] at c4
  clear hD c2
  generalize packL (hbW x) = P at *
  repeat' (first | refine T_seq ?_ | refine N_then ?_ | refine T_regX tyOk ?_ | (apply T_drawM (id := 3) 12 tyOk mixed; (· exact rfl); (· exact rfl); (· kernel_rfl); (· exact Nat.le_of_ble_eq_true rfl)) | refine S_nil ?_ | refine T_skip ?_ | refine T_ret ?_ | (apply E_X <;> repeat' (first | exact resL_nil | (apply resL_tmp; (· exact rfl)) | (apply resL_cell; (· exact rfl); (· exact rfl); (· exact rfl); (· exact rfl); (· exact rfl); (· exact rfl)) | (apply resL_arr; (· exact rfl); (· exact rfl); (· exact rfl); (· exact rfl); (· (first | assumption | exact rfl))) | exact viewL_nil | apply viewL_cons | apply view_nothingE | (apply view_slE; (· exact rfl); (· first | exact rfl | assumption | (simp [bA_length]; done) | (simp [bA_length]; omega) | omega); (· exact PureEC.out)) | (apply view_loose; (· exact PureEC.out)) | apply view_agg | apply view_tup | (apply View.ofEq; (· exact PureC.out)) | exact rfl)) | (apply T_ifF; (· exact rfl); (· (first | assumption | exact rfl))) | apply S_assign | (apply S_loadP; (· exact rfl); (· exact gt_any rfl); (· exact rfl); (· exact rfl); (· exact rfl); (· (first | exact ⟨rfl, rfl⟩ | exact ⟨rfl, trivial⟩ | assumption))) | (apply S_loadW; (· exact rfl); (· exact gt_any rfl); (· exact rfl); (· exact rfl); (· exact rfl); (· exact rfl); (· exact rfl); (· exact rfl)) | (apply S_fieldP; (· exact rfl); (· exact rfl); (· exact rfl); (· exact rfl); (· exact gt_any rfl)) | (apply S_neq; (· exact gt_any rfl); (· exact gt_any rfl)) | apply S_box | (apply S_buildV tyOk; (· exact rfl); (· exact rfl)) | apply S_callQ (f := 16) | apply k0 | apply S_call (f := 38) | apply c0 | apply c1 | apply S_call (f := 40) | apply c3 | apply S_call (f := 39) | apply c4 | exact viewL_nil | apply viewL_cons | (apply View.pure; exact PureC.out) | exact FlatC.out | exact PureLC.out | exact gtsI_nil | (apply gtsI_cons; (· exact gt_any rfl)) | exact elts_nil | apply elts_cons | (intro hu; cases hu; done) | exact gt_any rfl | exact gts_nil | (apply gts_cons; (· exact gt_any rfl)) | exact okCells_of rfl rfl | assumption | exact Nat.le_of_ble_eq_true rfl | exact rfl | fail)

/-! votes -/
def prevP (l : List Vot) (i : Nat) : Int := if i = 0 then -1 else (l.getD (i - 1) Vot0).place
def votStep (vs : List Vld) (m : List UInt8) (l : List Vot) (i : Nat) : Int :=
  if ¬ (prevP l i + 1 ≤ (l.getD i Vot0).place ∧ (l.getD i Vot0).place ≤ (vs.length : Int) - 1) then 3
  else if signL (vs.getD (l.getD i Vot0).place.toNat Vld0).key m (l.getD i Vot0).sign = true then 0 else 6
def votGo (vs : List Vld) (m : List UInt8) (l : List Vot) : Nat → Nat → Int
  | 0, _ => 0
  | n + 1, i => if votStep vs m l i = 0 then votGo vs m l n (i + 1) else votStep vs m l i
def sgdFault (vs : List Vld) (s : Sgd) : Int :=
  if setFault vs ≠ 0 then setFault vs else if hbFault s.head ≠ 0 then hbFault s.head else if s.head.set ≠ setD vs then 1 else if 5 < s.votes.length then 2 else votGo vs (hbD s.head) s.votes s.votes.length 0
theorem votStep_rng {vs : List Vld} {m : List UInt8} {l : List Vot} {i : Nat} (h : ¬ (prevP l i + 1 ≤ (l.getD i Vot0).place ∧ (l.getD i Vot0).place ≤ (vs.length : Int) - 1)) : votStep vs m l i = 3 := if_pos h
theorem votStep_ok {vs : List Vld} {m : List UInt8} {l : List Vot} {i : Nat} (h : prevP l i + 1 ≤ (l.getD i Vot0).place ∧ (l.getD i Vot0).place ≤ (vs.length : Int) - 1) (h2 : signL (vs.getD (l.getD i Vot0).place.toNat Vld0).key m (l.getD i Vot0).sign = true) : votStep vs m l i = 0 := by
  unfold votStep; rw [if_neg (fun k => k h), if_pos h2]
theorem votStep_bad {vs : List Vld} {m : List UInt8} {l : List Vot} {i : Nat} (h : prevP l i + 1 ≤ (l.getD i Vot0).place ∧ (l.getD i Vot0).place ≤ (vs.length : Int) - 1) (h2 : signL (vs.getD (l.getD i Vot0).place.toNat Vld0).key m (l.getD i Vot0).sign = false) : votStep vs m l i = 6 := by
  unfold votStep; rw [if_neg (fun k => k h), if_neg (by rw [h2]; decide)]
theorem prevP_zero (l : List Vot) : prevP l 0 = -1 := rfl
theorem prevP_succ (l : List Vot) (i : Nat) : prevP l (i + 1) = (l.getD i Vot0).place := by
  unfold prevP; rw [if_neg (by omega)]; rfl
theorem votW {l : List Vot} (h : listW VotW l ≤ 1048576) {k : Nat} (hk : k < l.length) : (l.getD k Vot0).sign.parts.length ≤ 1048576 ∧ (l.getD k Vot0).sign.prf.path.length ≤ 1048576 := by
  have h1 := listW_mem VotW l (getD_mem l Vot0 hk)
  generalize l.getD k Vot0 = v at *
  have h2 : VotW v = (v.sign.parts.length + sumW List.length v.sign.parts) + (v.sign.prf.path.length + sumW List.length v.sign.prf.path) := rfl
  omega

attribute [local irreducible] signL hbD

theorem sgdLoop_cv (vs : List Vld) (s : Sgd) (h : SgdW s ≤ 1048576) (g0 : setFault vs = 0) (g1 : hbFault s.head = 0) (g2 : s.head.set = setD vs) (g3 : ¬ 5 < s.votes.length) : CV Try.prog 9 [vldAS vs, sgdA s] (· = .int .i64 (votGo vs (hbD s.head) s.votes s.votes.length 0)) := by
  refine CV_intro tyOk Try.func9 (by kernel_rfl) rfl 68 rfl (by simp) [.tmp 4] rfl ?_
  intro w0 ok0
  have hW : listW VotW s.votes ≤ 1048576 := by unfold SgdW at h; omega
  have hml : (s.votes.map votA).length = s.votes.length := by simp
  have hvl : (vs.map vldA).length = vs.length := by simp
  obtain ⟨hs1, hs5, _⟩ := setFault_zero g0
  have hkey := set_keys g0
  have c0 := setFault_cv vs (by omega)
  have c1 := hbFault_cv s.head
  rw [g0] at c0
  rw [g1] at c1
  have d0 : (!decide ((0 : Int) = 0)) = false := rfl
  have c2 := setDigest_cv vs g0
  have c3 := equal_cv s.head.set (setD vs)
  have d2 : (!decide (s.head.set = setD vs)) = false := by rw [decide_eq_true g2]; rfl
  have d3 : decide ((5 : Int) < ((s.votes.map votA).length : Int)) = false := decide_eq_false (by omega)
  have c4 := hbDigest_cv s.head g1
  have hdl := hbD_length s.head
  generalize hbD s.head = m at *
  generalize hR : votGo vs m s.votes s.votes.length 0 = R
  repeat' (first | refine T_seq ?_ | refine N_then ?_ | refine N_block ?_ | refine T_regX tyOk ?_ | (apply T_drawM (id := 7) 5 tyOk mixed; (· exact rfl); (· exact rfl); (· kernel_rfl); (· exact Nat.le_of_ble_eq_true rfl)) | refine S_nil ?_ | refine T_skip ?_ | refine T_block ?_ | (apply T_ifF; (· exact rfl); (· (first | assumption | exact rfl))) | apply S_move | apply S_assign | (apply S_loadP; (· exact rfl); (· exact gt_any rfl); (· exact rfl); (· exact rfl); (· exact rfl); (· (first | exact ⟨rfl, rfl⟩ | exact ⟨rfl, trivial⟩ | assumption))) | (apply M_loadA; (· exact rfl); (· exact rfl); (· exact gt_any rfl); (· exact rfl); (· exact rfl); (· (repeat' constructor))) | (apply S_fieldP; (· exact rfl); (· exact rfl); (· exact rfl); (· exact rfl); (· exact gt_any rfl)) | apply S_gtr | (apply S_neq; (· exact gt_any rfl); (· exact gt_any rfl)) | apply S_not | (apply S_len_ls; (· exact rfl); (· exact gt_any rfl)) | apply S_box | apply S_callQ (f := 25) | apply c0 | apply S_callQ (f := 26) | apply c1 | apply S_call (f := 28) | apply c2 | apply S_callQ (f := 27) | apply c3 | apply S_call (f := 29) | apply c4 | exact viewL_nil | apply viewL_cons | (apply View.pure; exact PureC.out) | exact FlatC.out | exact PureLC.out | exact gt_any rfl | exact gts_nil | (apply gts_cons; (· exact gt_any rfl)) | exact okCells_of rfl rfl | exact rfl | fail)
  refine T_roundsS (α := Nat) (fun k => ⟨[(0, vldAS vs), (3, .ptr 0 0 0), (7, .int .i64 (prevP s.votes k)), (8, byA m), (39, votAS s.votes), (40, .int .i64 (s.votes.map votA).length), (41, .int .i64 k)], [(0, some ⟨[sgdA s], 6, false, false⟩)], 1⟩)
    (fun k => s.votes.length - k) (fun k => k ≤ s.votes.length ∧ R = votGo vs m s.votes (s.votes.length - k) k ∧ -1 ≤ prevP s.votes k ∧ prevP s.votes k ≤ 5) 0 ((weak_of (by repeat' (first | exact keepE_nil | refine keepE_cons rfl ?_)) (by repeat' (first | exact keepB_nil | refine keepB_cons (by first | rfl | exact congrArg (fun l => some (Box.mk l _ _ _)) hset) ?_)) (Nat.le_refl _))).sub ⟨by omega, hR.symm, by rw [prevP_zero]; decide, by rw [prevP_zero]; decide⟩ ?_
  rintro k ⟨hk, hI, hp1, hp2⟩
  by_cases hkl : k < s.votes.length
  · have d4 : decide ((k : Int) < ((s.votes.map votA).length : Int)) = true := decide_eq_true (by omega)
    have hget := map_getD votA s.votes Vot0 (k := k) (by omega)
    have hw : IntKind.wrap .i64 ((k : Int) + 1) = ((k + 1 : Nat) : Int) := by rw [wrap_i64 (by omega) (by omega)]; omega
    have hn := prevP_succ s.votes k
    obtain ⟨hv1, hv2⟩ := votW hW hkl
    have hst1 := @votStep_rng vs m s.votes k
    have hst2 := @votStep_ok vs m s.votes k
    have hst3 := @votStep_bad vs m s.votes k
    rw [show s.votes.length - k = (s.votes.length - (k + 1)) + 1 by omega, votGo] at hI
    generalize votStep vs m s.votes k = st at *
    generalize s.votes.getD k Vot0 = v at *
    have w1 : IntKind.wrap .i64 (prevP s.votes k + 1) = prevP s.votes k + 1 := wrap_i64 (by omega) (by omega)
    have w2 : IntKind.wrap .i64 (((vs.map vldA).length : Int) - 1) = (vs.length : Int) - 1 := by rw [wrap_i64 (by omega) (by omega)]; omega
    by_cases g4 : prevP s.votes k + 1 ≤ v.place ∧ v.place ≤ (vs.length : Int) - 1
    · have d5 := rng_t g4
      have hpl : ((v.place.toNat : Nat) : Int) = v.place := by omega
      have hget2 := map_getD vldA vs Vld0 (k := v.place.toNat) (by omega)
      rw [hpl] at hget2
      have hlt : v.place.toNat < vs.length := by omega
      have c5 := checkSign_cv (vs.getD v.place.toNat Vld0).key m v.sign (by omega) (by omega) (by omega)
      cases g5 : signL (vs.getD v.place.toNat Vld0).key m v.sign with
      | true =>
        rw [g5] at c5
        rw [hst2 g4 g5, if_pos rfl] at hI
        have d6 : (!true) = false := rfl
        generalize vs.getD v.place.toNat Vld0 = u at *
        repeat' (first | refine T_seq ?_ | refine N_then ?_ | refine N_block ?_ | refine T_regX tyOk ?_ | (apply T_drawM (id := 17) 9 tyOk mixed; (· exact rfl); (· exact rfl); (· kernel_rfl); (· exact Nat.le_of_ble_eq_true rfl)) | refine S_nil ?_ | refine T_skip ?_ | refine T_block ?_ | (apply T_ifT; (· exact rfl); (· (first | assumption | exact rfl))) | (apply T_ifF; (· exact rfl); (· (first | assumption | exact rfl))) | apply S_move | apply S_assign | (apply S_loadP; (· exact rfl); (· exact gt_any rfl); (· exact rfl); (· exact rfl); (· exact rfl); (· (first | exact ⟨rfl, rfl⟩ | exact ⟨rfl, trivial⟩ | assumption))) | (apply M_loadA; (· exact rfl); (· exact rfl); (· exact gt_any rfl); (· exact rfl); (· exact rfl); (· (repeat' constructor))) | (apply S_loadV; (· exact rfl); (· exact gt_any rfl); (· exact rfl); (· (first | exact ⟨rfl, rfl⟩ | exact ⟨rfl, trivial⟩ | assumption))) | (apply S_loadVA; (· exact rfl); (· exact gt_any rfl); (· exact rfl); (· exact rfl)) | (apply S_fieldP; (· exact rfl); (· exact rfl); (· exact rfl); (· exact rfl); (· exact gt_any rfl)) | (apply S_fieldV; (· exact rfl); (· exact rfl); (· exact rfl); (· exact rfl); (· exact gt_any rfl)) | apply S_lss | apply S_add | apply S_sub | apply S_not | (apply S_len_ls; (· exact rfl); (· exact gt_any rfl)) | apply S_alloc | (apply S_store1; (· exact rfl); (· exact gt_any rfl); (· exact rfl); (· exact rfl); (· exact rfl); (· exact rfl)) | (apply S_idxLs; (· exact rfl); (· exact rfl); (· exact gt_any rfl); (· exact gt_any rfl)) | apply S_callQ (f := 31) | apply c5 | apply S_callQ (f := 30) | apply in_cv | exact viewL_nil | apply viewL_cons | (apply View.pure; exact PureC.out) | exact FlatC.out | exact gt_any rfl | exact gts_nil | (apply gts_cons; (· exact gt_any rfl)) | exact okCells_of rfl rfl | assumption | (refine ⟨?_, ?_⟩ <;> omega) | exact rfl | fail)
        rw [← hn]
        exact N_againS (k + 1) (sub_drop (by repeat' (first | exact keepE_nil | refine keepE_cons rfl ?_)) (by repeat' (first | exact keepB_nil | refine keepB_cons rfl ?_)) (by repeat' (first | exact lowE_nil | apply lowE_cons | exact Low.sl _ _ _ _ (by decide) | exact Low.ptr _ _ _ (by decide) | (apply Low.pure; (first | exact PureC.out | exact PureLC.out | assumption)) | exact lowL_nil | apply lowL_cons | apply low_agg | apply low_tup)) (by repeat' (first | exact lowB_nil | refine lowB_cons (by decide) (by (apply PureB.low; exact PureEC.out)) ?_)) (Nat.zero_le _)) ⟨by omega, hI, by omega, by omega⟩ (by omega)
      | false =>
        rw [g5] at c5
        rw [hst3 g4 g5, if_neg (by decide)] at hI
        have d6 : (!false) = true := rfl
        rw [hI]
        generalize vs.getD v.place.toNat Vld0 = u at *
        repeat' (first | refine T_seq ?_ | refine N_then ?_ | refine N_thenR ?_ | refine N_blockR ?_ | refine N_againSR ?_ | refine T_regX tyOk ?_ | (apply T_drawM (id := 17) 9 tyOk mixed; (· exact rfl); (· exact rfl); (· kernel_rfl); (· exact Nat.le_of_ble_eq_true rfl)) | refine S_nil ?_ | refine T_skip ?_ | refine T_ret ?_ | refine T_block ?_ | (apply E_tmp; (· exact rfl); (· (repeat' (first | exact pure_int _ _ | exact pure_bool _ | exact pure_str _); done))) | (apply T_ifT; (· exact rfl); (· (first | assumption | exact rfl))) | (apply T_ifF; (· exact rfl); (· (first | assumption | exact rfl))) | apply S_move | apply S_assign | (apply S_loadP; (· exact rfl); (· exact gt_any rfl); (· exact rfl); (· exact rfl); (· exact rfl); (· (first | exact ⟨rfl, rfl⟩ | exact ⟨rfl, trivial⟩ | assumption))) | (apply M_loadA; (· exact rfl); (· exact rfl); (· exact gt_any rfl); (· exact rfl); (· exact rfl); (· (repeat' constructor))) | (apply S_loadV; (· exact rfl); (· exact gt_any rfl); (· exact rfl); (· (first | exact ⟨rfl, rfl⟩ | exact ⟨rfl, trivial⟩ | assumption))) | (apply S_loadVA; (· exact rfl); (· exact gt_any rfl); (· exact rfl); (· exact rfl)) | (apply S_fieldP; (· exact rfl); (· exact rfl); (· exact rfl); (· exact rfl); (· exact gt_any rfl)) | (apply S_fieldV; (· exact rfl); (· exact rfl); (· exact rfl); (· exact rfl); (· exact gt_any rfl)) | apply S_lss | apply S_add | apply S_sub | apply S_not | (apply S_len_ls; (· exact rfl); (· exact gt_any rfl)) | apply S_alloc | (apply S_store1; (· exact rfl); (· exact gt_any rfl); (· exact rfl); (· exact rfl); (· exact rfl); (· exact rfl)) | (apply S_idxLs; (· exact rfl); (· exact rfl); (· exact gt_any rfl); (· exact gt_any rfl)) | apply S_callQ (f := 31) | apply c5 | apply S_callQ (f := 30) | apply in_cv | exact viewL_nil | apply viewL_cons | (apply View.pure; exact PureC.out) | exact FlatC.out | exact gt_any rfl | exact gts_nil | (apply gts_cons; (· exact gt_any rfl)) | exact okCells_of rfl rfl | assumption | (refine ⟨?_, ?_⟩ <;> omega) | exact rfl | fail)
    · have d5 := rng_f g4
      rw [hst1 g4, if_neg (by decide)] at hI
      rw [hI]
      repeat' (first | refine T_seq ?_ | refine N_then ?_ | refine N_thenR ?_ | refine N_blockR ?_ | refine N_againSR ?_ | refine T_regX tyOk ?_ | refine S_nil ?_ | refine T_skip ?_ | refine T_ret ?_ | refine T_block ?_ | (apply E_tmp; (· exact rfl); (· (repeat' (first | exact pure_int _ _ | exact pure_bool _ | exact pure_str _); done))) | (apply T_ifT; (· exact rfl); (· (first | assumption | exact rfl))) | apply S_move | apply S_assign | (apply S_loadP; (· exact rfl); (· exact gt_any rfl); (· exact rfl); (· exact rfl); (· exact rfl); (· (first | exact ⟨rfl, rfl⟩ | exact ⟨rfl, trivial⟩ | assumption))) | (apply S_loadVA; (· exact rfl); (· exact gt_any rfl); (· exact rfl); (· exact rfl)) | (apply S_fieldP; (· exact rfl); (· exact rfl); (· exact rfl); (· exact rfl); (· exact gt_any rfl)) | apply S_lss | apply S_add | apply S_sub | apply S_not | (apply S_len_ls; (· exact rfl); (· exact gt_any rfl)) | apply S_alloc | (apply S_store1; (· exact rfl); (· exact gt_any rfl); (· exact rfl); (· exact rfl); (· exact rfl); (· exact rfl)) | (apply S_idxLs; (· exact rfl); (· exact rfl); (· exact gt_any rfl); (· exact gt_any rfl)) | apply S_callQ (f := 30) | apply in_cv | exact viewL_nil | apply viewL_cons | (apply View.pure; exact PureC.out) | exact FlatC.out | exact gt_any rfl | exact gts_nil | (apply gts_cons; (· exact gt_any rfl)) | exact okCells_of rfl rfl | assumption | (refine ⟨?_, ?_⟩ <;> omega) | exact rfl | fail)
  · have d4 : decide ((k : Int) < ((s.votes.map votA).length : Int)) = false := decide_eq_false (by omega)
    obtain rfl : k = s.votes.length := by omega
    rw [Nat.sub_self, votGo] at hI
    rw [hI]
    repeat' (first | refine T_seq ?_ | refine N_then ?_ | refine N_thenE ?_ | refine N_blockE ?_ | refine N_againSE ?_ | refine T_regX tyOk ?_ | refine S_nil ?_ | refine T_ret ?_ | refine T_exit ?_ | (apply E_tmp; (· exact rfl); (· (repeat' (first | exact pure_int _ _ | exact pure_bool _ | exact pure_str _); done))) | (apply T_ifF; (· exact rfl); (· (first | assumption | exact rfl))) | apply S_assign | apply S_lss | exact gt_any rfl | exact rfl | fail)

theorem votStep_rng2 {vs : List Vld} {m : List UInt8} {l : List Vot} {i : Nat} (hp : -1 ≤ prevP l i) (h : ¬ (0 ≤ (l.getD i Vot0).place ∧ (l.getD i Vot0).place ≤ (vs.length : Int) - 1)) : votStep vs m l i = 3 :=
  votStep_rng fun k => h ⟨by omega, k.2⟩

theorem specSgdLoop_cv (vs : List Vld) (s : Sgd) (h : SgdW s ≤ 1048576) (hk : ∀ v ∈ vs, v.key.length ≤ 1048576) (g0 : setFault vs = 0) (g1 : hbFault s.head = 0) (g2 : s.head.set = setD vs) (g3 : ¬ 5 < s.votes.length) : CV Try.prog 6 [vldAS vs, sgdA s] (· = .int .i64 (votGo vs (hbD s.head) s.votes s.votes.length 0)) := by
  refine CV_intro tyOk Try.func6 (by kernel_rfl) rfl 81 rfl (by simp) [.tmp 4] rfl ?_
  intro w0 ok0
  have hW : listW VotW s.votes ≤ 1048576 := by unfold SgdW at h; omega
  have hml : (s.votes.map votA).length = s.votes.length := by simp
  have hvl : (vs.map vldA).length = vs.length := by simp
  obtain ⟨hs1, hs5, _⟩ := setFault_zero g0
  have hkey := set_keys g0
  have c0 := specSetFault_cv vs (by omega) hk
  have c1 := specHbFault_cv s.head
  rw [g0] at c0
  rw [g1] at c1
  have d0 : (!decide ((0 : Int) = 0)) = false := rfl
  have c2 := l7Digest_cv vs g0
  have hsl := setD_length vs
  obtain ⟨⟨_, hset32, _⟩, _⟩ := hb_zero g1
  have c3 := same_cv s.head.set (setD vs) (by omega) (by omega)
  have d2 : (!decide (s.head.set = setD vs)) = false := by rw [decide_eq_true g2]; rfl
  have d3 : decide ((5 : Int) < ((s.votes.map votA).length : Int)) = false := decide_eq_false (by omega)
  have c4 := specHbDigest_cv s.head g1
  have hdl := hbD_length s.head
  generalize hbD s.head = m at *
  generalize hR : votGo vs m s.votes s.votes.length 0 = R
  repeat' (first | refine T_seq ?_ | refine N_then ?_ | refine T_regX tyOk ?_ | (apply T_drawM (id := 7) 5 tyOk mixed; (· exact rfl); (· exact rfl); (· kernel_rfl); (· exact Nat.le_of_ble_eq_true rfl)) | refine S_nil ?_ | refine T_skip ?_ | refine T_block ?_ | (apply T_ifF; (· exact rfl); (· (first | assumption | exact rfl))) | apply S_move | apply S_assign | (apply S_loadP; (· exact rfl); (· exact gt_any rfl); (· exact rfl); (· exact rfl); (· exact rfl); (· (first | exact ⟨rfl, rfl⟩ | exact ⟨rfl, trivial⟩ | assumption))) | (apply M_loadA; (· exact rfl); (· exact rfl); (· exact gt_any rfl); (· exact rfl); (· exact rfl); (· (repeat' constructor))) | (apply S_fieldP; (· exact rfl); (· exact rfl); (· exact rfl); (· exact rfl); (· exact gt_any rfl)) | apply S_gtr | (apply S_neq; (· exact gt_any rfl); (· exact gt_any rfl)) | apply S_not | (apply S_len_ls; (· exact rfl); (· exact gt_any rfl)) | apply S_box | apply S_callQ (f := 15) | apply c0 | apply S_callQ (f := 16) | apply c1 | apply S_call (f := 18) | apply c2 | apply S_callQ (f := 17) | apply c3 | apply S_call (f := 19) | apply c4 | exact viewL_nil | apply viewL_cons | (apply View.pure; exact PureC.out) | exact FlatC.out | exact PureLC.out | exact gt_any rfl | exact gts_nil | (apply gts_cons; (· exact gt_any rfl)) | exact okCells_of rfl rfl | exact rfl | fail)
  refine T_roundsS (α := Nat) (fun k => ⟨[(0, vldAS vs), (3, .ptr 0 0 0), (7, byA m), (8, .int .i64 k)], [(0, some ⟨[sgdA s], 6, false, false⟩)], 1⟩)
    (fun k => s.votes.length - k) (fun k => k ≤ s.votes.length ∧ R = votGo vs m s.votes (s.votes.length - k) k ∧ -1 ≤ prevP s.votes k ∧ prevP s.votes k ≤ 5) 0 ((weak_of (by repeat' (first | exact keepE_nil | refine keepE_cons rfl ?_)) (by repeat' (first | exact keepB_nil | refine keepB_cons (by first | rfl | exact congrArg (fun l => some (Box.mk l _ _ _)) hset) ?_)) (Nat.le_refl _))).sub ⟨by omega, hR.symm, by rw [prevP_zero]; decide, by rw [prevP_zero]; decide⟩ ?_
  rintro k ⟨hk', hI, hp1, hp2⟩
  by_cases hkl : k < s.votes.length
  · have d4 : decide ((k : Int) < ((s.votes.map votA).length : Int)) = true := decide_eq_true (by omega)
    have hget := map_getD votA s.votes Vot0 (k := k) (by omega)
    have hw : IntKind.wrap .i64 ((k : Int) + 1) = ((k + 1 : Nat) : Int) := by rw [wrap_i64 (by omega) (by omega)]; omega
    have hn := prevP_succ s.votes k
    obtain ⟨hv1, hv2⟩ := votW hW hkl
    have hst1 := @votStep_rng vs m s.votes k
    have hst4 := @votStep_rng2 vs m s.votes k hp1
    have hst2 := @votStep_ok vs m s.votes k
    have hst3 := @votStep_bad vs m s.votes k
    have hprev : 0 < k → prevP s.votes k = (s.votes.getD (k - 1) Vot0).place := fun h0 => if_neg (by omega)
    have hprev0 : k = 0 → prevP s.votes k = -1 := fun h0 => if_pos h0
    rw [show s.votes.length - k = (s.votes.length - (k + 1)) + 1 by omega, votGo] at hI
    generalize votStep vs m s.votes k = st at *
    generalize s.votes.getD k Vot0 = v at *
    have w2 : IntKind.wrap .i64 (((vs.map vldA).length : Int) - 1) = (vs.length : Int) - 1 := by rw [wrap_i64 (by omega) (by omega)]; omega
    by_cases g4 : 0 ≤ v.place ∧ v.place ≤ (vs.length : Int) - 1
    · have d5 := rng_t g4
      have hpl : ((v.place.toNat : Nat) : Int) = v.place := by omega
      have hget2 := map_getD vldA vs Vld0 (k := v.place.toNat) (by omega)
      rw [hpl] at hget2
      have hlt : v.place.toNat < vs.length := by omega
      have hkl2 := hk _ (getD_mem vs Vld0 hlt)
      have c5 := specCheckSign_cv (vs.getD v.place.toNat Vld0).key m v.sign (by omega) (by omega) (by omega) (by omega)
      rcases Nat.eq_zero_or_pos k with h0 | h0
      · have e0 : decide ((0 : Int) < (k : Int)) = false := decide_eq_false (by omega)
        have hpv := hprev0 h0
        cases g5 : signL (vs.getD v.place.toNat Vld0).key m v.sign with
        | true =>
          rw [g5] at c5
          rw [hst2 ⟨by omega, g4.2⟩ g5, if_pos rfl] at hI
          have d6 : (!true) = false := rfl
          generalize vs.getD v.place.toNat Vld0 = u at *
          repeat' (first | refine T_seq ?_ | refine N_then ?_ | refine N_block ?_ | refine T_regX tyOk ?_ | (apply T_drawM (id := 18) 9 tyOk mixed; (· exact rfl); (· exact rfl); (· kernel_rfl); (· exact Nat.le_of_ble_eq_true rfl)) | (apply T_drawAll tyOk mixed; (· kernel_rfl)) | refine S_nil ?_ | refine T_skip ?_ | refine T_block ?_ | (apply T_ifT; (· exact rfl); (· (first | assumption | exact rfl))) | (apply T_ifF; (· exact rfl); (· (first | assumption | exact rfl))) | (apply S_gf; (· exact rfl); (· exact rfl); (· (first | assumption | exact rfl))) | (apply S_gtF'; (· exact rfl); (· exact rfl); (· exact rfl); (· (first | assumption | exact rfl))) | apply S_move | apply S_assign | (apply S_pickF; (· exact gt_any rfl); (· (first | assumption | exact rfl))) | (apply S_loadP; (· exact rfl); (· exact gt_any rfl); (· exact rfl); (· exact rfl); (· exact rfl); (· (first | exact ⟨rfl, rfl⟩ | exact ⟨rfl, trivial⟩ | assumption))) | (apply M_loadA; (· exact rfl); (· exact rfl); (· exact gt_any rfl); (· exact rfl); (· exact rfl); (· (repeat' constructor))) | (apply S_loadV; (· exact rfl); (· exact gt_any rfl); (· exact rfl); (· (first | exact ⟨rfl, rfl⟩ | exact ⟨rfl, trivial⟩ | assumption))) | (apply S_loadVA; (· exact rfl); (· exact gt_any rfl); (· exact rfl); (· exact rfl)) | (apply S_fieldP; (· exact rfl); (· exact rfl); (· exact rfl); (· exact rfl); (· exact gt_any rfl)) | (apply S_fieldV; (· exact rfl); (· exact rfl); (· exact rfl); (· exact rfl); (· exact gt_any rfl)) | apply S_lss | apply S_gtr | apply S_add | apply S_sub | apply S_not | (apply S_len_ls; (· exact rfl); (· exact gt_any rfl)) | apply S_alloc | (apply S_store1; (· exact rfl); (· exact gt_any rfl); (· exact rfl); (· exact rfl); (· exact rfl); (· exact rfl)) | (apply S_idxLs; (· exact rfl); (· exact rfl); (· exact gt_any rfl); (· exact gt_any rfl)) | apply S_callQ (f := 21) | apply c5 | apply S_callQ (f := 20) | apply l1In_cv | exact viewL_nil | apply viewL_cons | (apply View.pure; exact PureC.out) | exact FlatC.out | exact gt_any rfl | exact gts_nil | (apply gts_cons; (· exact gt_any rfl)) | exact okCells_of rfl rfl | assumption | (refine ⟨?_, ?_⟩ <;> omega) | exact rfl | fail)
          exact N_againS (k + 1) (sub_drop (by repeat' (first | exact keepE_nil | refine keepE_cons rfl ?_)) (by repeat' (first | exact keepB_nil | refine keepB_cons rfl ?_)) (by repeat' (first | exact lowE_nil | apply lowE_cons | exact Low.sl _ _ _ _ (by decide) | exact Low.ptr _ _ _ (by decide) | (apply Low.pure; (first | exact PureC.out | exact PureLC.out | assumption)) | exact lowL_nil | apply lowL_cons | apply low_agg | apply low_tup)) (by repeat' (first | exact lowB_nil | refine lowB_cons (by decide) (by (apply PureB.low; exact PureEC.out)) ?_)) (Nat.zero_le _)) ⟨by omega, hI, by omega, by omega⟩ (by omega)
        | false =>
          rw [g5] at c5
          rw [hst3 ⟨by omega, g4.2⟩ g5, if_neg (by decide)] at hI
          have d6 : (!false) = true := rfl
          rw [hI]
          generalize vs.getD v.place.toNat Vld0 = u at *
          repeat' (first | refine T_seq ?_ | refine N_then ?_ | refine N_thenR ?_ | refine N_blockR ?_ | refine N_againSR ?_ | refine T_regX tyOk ?_ | (apply T_drawM (id := 18) 9 tyOk mixed; (· exact rfl); (· exact rfl); (· kernel_rfl); (· exact Nat.le_of_ble_eq_true rfl)) | (apply T_drawAll tyOk mixed; (· kernel_rfl)) | refine S_nil ?_ | refine T_skip ?_ | refine T_ret ?_ | refine T_block ?_ | (apply E_tmp; (· exact rfl); (· (repeat' (first | exact pure_int _ _ | exact pure_bool _ | exact pure_str _); done))) | (apply T_ifT; (· exact rfl); (· (first | assumption | exact rfl))) | (apply T_ifF; (· exact rfl); (· (first | assumption | exact rfl))) | (apply S_gf; (· exact rfl); (· exact rfl); (· (first | assumption | exact rfl))) | (apply S_gtF'; (· exact rfl); (· exact rfl); (· exact rfl); (· (first | assumption | exact rfl))) | apply S_move | apply S_assign | (apply S_pickF; (· exact gt_any rfl); (· (first | assumption | exact rfl))) | (apply S_loadP; (· exact rfl); (· exact gt_any rfl); (· exact rfl); (· exact rfl); (· exact rfl); (· (first | exact ⟨rfl, rfl⟩ | exact ⟨rfl, trivial⟩ | assumption))) | (apply M_loadA; (· exact rfl); (· exact rfl); (· exact gt_any rfl); (· exact rfl); (· exact rfl); (· (repeat' constructor))) | (apply S_loadV; (· exact rfl); (· exact gt_any rfl); (· exact rfl); (· (first | exact ⟨rfl, rfl⟩ | exact ⟨rfl, trivial⟩ | assumption))) | (apply S_loadVA; (· exact rfl); (· exact gt_any rfl); (· exact rfl); (· exact rfl)) | (apply S_fieldP; (· exact rfl); (· exact rfl); (· exact rfl); (· exact rfl); (· exact gt_any rfl)) | (apply S_fieldV; (· exact rfl); (· exact rfl); (· exact rfl); (· exact rfl); (· exact gt_any rfl)) | apply S_lss | apply S_gtr | apply S_sub | apply S_not | (apply S_len_ls; (· exact rfl); (· exact gt_any rfl)) | apply S_alloc | (apply S_store1; (· exact rfl); (· exact gt_any rfl); (· exact rfl); (· exact rfl); (· exact rfl); (· exact rfl)) | (apply S_idxLs; (· exact rfl); (· exact rfl); (· exact gt_any rfl); (· exact gt_any rfl)) | apply S_callQ (f := 21) | apply c5 | apply S_callQ (f := 20) | apply l1In_cv | exact viewL_nil | apply viewL_cons | (apply View.pure; exact PureC.out) | exact FlatC.out | exact gt_any rfl | exact gts_nil | (apply gts_cons; (· exact gt_any rfl)) | exact okCells_of rfl rfl | assumption | (refine ⟨?_, ?_⟩ <;> omega) | exact rfl | fail)
      · have e0 : decide ((0 : Int) < (k : Int)) = true := decide_eq_true (by omega)
        have hpv := hprev h0
        have w3 : IntKind.wrap .i64 ((k : Int) - 1) = ((k - 1 : Nat) : Int) := by rw [wrap_i64 (by omega) (by omega)]; omega
        have hget3 := map_getD votA s.votes Vot0 (k := k - 1) (by omega)
        have hk1 : k - 1 < s.votes.length := by omega
        generalize s.votes.getD (k - 1) Vot0 = v1 at *
        generalize k - 1 = k1 at *
        by_cases g6 : v.place ≤ v1.place
        · have e1 : decide (v.place ≤ v1.place) = true := decide_eq_true g6
          rw [hst1 (fun x => by omega), if_neg (by decide)] at hI
          rw [hI]
          repeat' (first | refine T_seq ?_ | refine N_then ?_ | refine N_thenR ?_ | refine N_blockR ?_ | refine N_againSR ?_ | refine T_regX tyOk ?_ | (apply T_drawAll tyOk mixed; (· kernel_rfl)) | refine S_nil ?_ | refine T_skip ?_ | refine T_ret ?_ | refine T_block ?_ | (apply E_tmp; (· exact rfl); (· (repeat' (first | exact pure_int _ _ | exact pure_bool _ | exact pure_str _); done))) | (apply T_ifT; (· exact rfl); (· (first | assumption | exact rfl))) | (apply S_gt; (· exact rfl); (· exact rfl); (· (first | assumption | exact rfl))) | (apply S_gf; (· exact rfl); (· exact rfl); (· (first | assumption | exact rfl))) | apply S_move | apply S_assign | (apply S_pickT; (· exact gt_any rfl); (· (first | assumption | exact rfl))) | (apply S_pickF; (· exact gt_any rfl); (· (first | assumption | exact rfl))) | (apply S_loadP; (· exact rfl); (· exact gt_any rfl); (· exact rfl); (· exact rfl); (· exact rfl); (· (first | exact ⟨rfl, rfl⟩ | exact ⟨rfl, trivial⟩ | assumption))) | (apply S_loadV; (· exact rfl); (· exact gt_any rfl); (· exact rfl); (· (first | exact ⟨rfl, rfl⟩ | exact ⟨rfl, trivial⟩ | assumption))) | (apply S_loadVA; (· exact rfl); (· exact gt_any rfl); (· exact rfl); (· exact rfl)) | (apply S_fieldP; (· exact rfl); (· exact rfl); (· exact rfl); (· exact rfl); (· exact gt_any rfl)) | (apply S_fieldV; (· exact rfl); (· exact rfl); (· exact rfl); (· exact rfl); (· exact gt_any rfl)) | apply S_lss | apply S_leq | apply S_gtr | apply S_sub | apply S_not | (apply S_len_ls; (· exact rfl); (· exact gt_any rfl)) | apply S_alloc | (apply S_store1; (· exact rfl); (· exact gt_any rfl); (· exact rfl); (· exact rfl); (· exact rfl); (· exact rfl)) | (apply S_idxLs; (· exact rfl); (· exact rfl); (· exact gt_any rfl); (· exact gt_any rfl)) | apply S_callQ (f := 20) | apply l1In_cv | exact viewL_nil | apply viewL_cons | (apply View.pure; exact PureC.out) | exact FlatC.out | exact gt_any rfl | exact gts_nil | (apply gts_cons; (· exact gt_any rfl)) | exact okCells_of rfl rfl | assumption | (refine ⟨?_, ?_⟩ <;> omega) | exact rfl | fail)
        · have e1 : decide (v.place ≤ v1.place) = false := decide_eq_false g6
          cases g5 : signL (vs.getD v.place.toNat Vld0).key m v.sign with
          | true =>
            rw [g5] at c5
            rw [hst2 ⟨by omega, g4.2⟩ g5, if_pos rfl] at hI
            have d6 : (!true) = false := rfl
            generalize vs.getD v.place.toNat Vld0 = u at *
            repeat' (first | refine T_seq ?_ | refine N_then ?_ | refine N_block ?_ | refine T_regX tyOk ?_ | (apply T_drawM (id := 18) 9 tyOk mixed; (· exact rfl); (· exact rfl); (· kernel_rfl); (· exact Nat.le_of_ble_eq_true rfl)) | (apply T_drawAll tyOk mixed; (· kernel_rfl)) | refine S_nil ?_ | refine T_skip ?_ | refine T_block ?_ | (apply T_ifT; (· exact rfl); (· (first | assumption | exact rfl))) | (apply T_ifF; (· exact rfl); (· (first | assumption | exact rfl))) | (apply S_gt; (· exact rfl); (· exact rfl); (· (first | assumption | exact rfl))) | (apply S_gf; (· exact rfl); (· exact rfl); (· (first | assumption | exact rfl))) | apply S_move | apply S_assign | (apply S_pickT; (· exact gt_any rfl); (· (first | assumption | exact rfl))) | (apply S_pickF; (· exact gt_any rfl); (· (first | assumption | exact rfl))) | (apply S_loadP; (· exact rfl); (· exact gt_any rfl); (· exact rfl); (· exact rfl); (· exact rfl); (· (first | exact ⟨rfl, rfl⟩ | exact ⟨rfl, trivial⟩ | assumption))) | (apply M_loadA; (· exact rfl); (· exact rfl); (· exact gt_any rfl); (· exact rfl); (· exact rfl); (· (repeat' constructor))) | (apply S_loadV; (· exact rfl); (· exact gt_any rfl); (· exact rfl); (· (first | exact ⟨rfl, rfl⟩ | exact ⟨rfl, trivial⟩ | assumption))) | (apply S_loadVA; (· exact rfl); (· exact gt_any rfl); (· exact rfl); (· exact rfl)) | (apply S_fieldP; (· exact rfl); (· exact rfl); (· exact rfl); (· exact rfl); (· exact gt_any rfl)) | (apply S_fieldV; (· exact rfl); (· exact rfl); (· exact rfl); (· exact rfl); (· exact gt_any rfl)) | apply S_lss | apply S_leq | apply S_gtr | apply S_add | apply S_sub | apply S_not | (apply S_len_ls; (· exact rfl); (· exact gt_any rfl)) | apply S_alloc | (apply S_store1; (· exact rfl); (· exact gt_any rfl); (· exact rfl); (· exact rfl); (· exact rfl); (· exact rfl)) | (apply S_idxLs; (· exact rfl); (· exact rfl); (· exact gt_any rfl); (· exact gt_any rfl)) | apply S_callQ (f := 21) | apply c5 | apply S_callQ (f := 20) | apply l1In_cv | exact viewL_nil | apply viewL_cons | (apply View.pure; exact PureC.out) | exact FlatC.out | exact gt_any rfl | exact gts_nil | (apply gts_cons; (· exact gt_any rfl)) | exact okCells_of rfl rfl | assumption | (refine ⟨?_, ?_⟩ <;> omega) | exact rfl | fail)
            exact N_againS (k + 1) (sub_drop (by repeat' (first | exact keepE_nil | refine keepE_cons rfl ?_)) (by repeat' (first | exact keepB_nil | refine keepB_cons rfl ?_)) (by repeat' (first | exact lowE_nil | apply lowE_cons | exact Low.sl _ _ _ _ (by decide) | exact Low.ptr _ _ _ (by decide) | (apply Low.pure; (first | exact PureC.out | exact PureLC.out | assumption)) | exact lowL_nil | apply lowL_cons | apply low_agg | apply low_tup)) (by repeat' (first | exact lowB_nil | refine lowB_cons (by decide) (by (apply PureB.low; exact PureEC.out)) ?_)) (Nat.zero_le _)) ⟨by omega, hI, by omega, by omega⟩ (by omega)
          | false =>
            rw [g5] at c5
            rw [hst3 ⟨by omega, g4.2⟩ g5, if_neg (by decide)] at hI
            have d6 : (!false) = true := rfl
            rw [hI]
            generalize vs.getD v.place.toNat Vld0 = u at *
            repeat' (first | refine T_seq ?_ | refine N_then ?_ | refine N_thenR ?_ | refine N_blockR ?_ | refine N_againSR ?_ | refine T_regX tyOk ?_ | (apply T_drawM (id := 18) 9 tyOk mixed; (· exact rfl); (· exact rfl); (· kernel_rfl); (· exact Nat.le_of_ble_eq_true rfl)) | (apply T_drawAll tyOk mixed; (· kernel_rfl)) | refine S_nil ?_ | refine T_skip ?_ | refine T_ret ?_ | refine T_block ?_ | (apply E_tmp; (· exact rfl); (· (repeat' (first | exact pure_int _ _ | exact pure_bool _ | exact pure_str _); done))) | (apply T_ifT; (· exact rfl); (· (first | assumption | exact rfl))) | (apply T_ifF; (· exact rfl); (· (first | assumption | exact rfl))) | (apply S_gt; (· exact rfl); (· exact rfl); (· (first | assumption | exact rfl))) | (apply S_gf; (· exact rfl); (· exact rfl); (· (first | assumption | exact rfl))) | apply S_move | apply S_assign | (apply S_pickT; (· exact gt_any rfl); (· (first | assumption | exact rfl))) | (apply S_pickF; (· exact gt_any rfl); (· (first | assumption | exact rfl))) | (apply S_loadP; (· exact rfl); (· exact gt_any rfl); (· exact rfl); (· exact rfl); (· exact rfl); (· (first | exact ⟨rfl, rfl⟩ | exact ⟨rfl, trivial⟩ | assumption))) | (apply M_loadA; (· exact rfl); (· exact rfl); (· exact gt_any rfl); (· exact rfl); (· exact rfl); (· (repeat' constructor))) | (apply S_loadV; (· exact rfl); (· exact gt_any rfl); (· exact rfl); (· (first | exact ⟨rfl, rfl⟩ | exact ⟨rfl, trivial⟩ | assumption))) | (apply S_loadVA; (· exact rfl); (· exact gt_any rfl); (· exact rfl); (· exact rfl)) | (apply S_fieldP; (· exact rfl); (· exact rfl); (· exact rfl); (· exact rfl); (· exact gt_any rfl)) | (apply S_fieldV; (· exact rfl); (· exact rfl); (· exact rfl); (· exact rfl); (· exact gt_any rfl)) | apply S_lss | apply S_leq | apply S_gtr | apply S_sub | apply S_not | (apply S_len_ls; (· exact rfl); (· exact gt_any rfl)) | apply S_alloc | (apply S_store1; (· exact rfl); (· exact gt_any rfl); (· exact rfl); (· exact rfl); (· exact rfl); (· exact rfl)) | (apply S_idxLs; (· exact rfl); (· exact rfl); (· exact gt_any rfl); (· exact gt_any rfl)) | apply S_callQ (f := 21) | apply c5 | apply S_callQ (f := 20) | apply l1In_cv | exact viewL_nil | apply viewL_cons | (apply View.pure; exact PureC.out) | exact FlatC.out | exact gt_any rfl | exact gts_nil | (apply gts_cons; (· exact gt_any rfl)) | exact okCells_of rfl rfl | assumption | (refine ⟨?_, ?_⟩ <;> omega) | exact rfl | fail)
    · have d5 := rng_f g4
      rw [hst4 g4, if_neg (by decide)] at hI
      rw [hI]
      repeat' (first | refine T_seq ?_ | refine N_then ?_ | refine N_thenR ?_ | refine N_blockR ?_ | refine N_againSR ?_ | refine T_regX tyOk ?_ | (apply T_drawAll tyOk mixed; (· kernel_rfl)) | refine S_nil ?_ | refine T_skip ?_ | refine T_ret ?_ | refine T_block ?_ | (apply E_tmp; (· exact rfl); (· (repeat' (first | exact pure_int _ _ | exact pure_bool _ | exact pure_str _); done))) | (apply T_ifT; (· exact rfl); (· (first | assumption | exact rfl))) | (apply S_gfT'; (· exact rfl); (· exact rfl); (· exact rfl); (· (first | assumption | exact rfl))) | (apply S_gskip'; (· exact rfl); (· exact rfl); (· exact rfl)) | apply S_move | apply S_assign | (apply S_pickT; (· exact gt_any rfl); (· (first | assumption | exact rfl))) | (apply S_loadP; (· exact rfl); (· exact gt_any rfl); (· exact rfl); (· exact rfl); (· exact rfl); (· (first | exact ⟨rfl, rfl⟩ | exact ⟨rfl, trivial⟩ | assumption))) | (apply S_loadVA; (· exact rfl); (· exact gt_any rfl); (· exact rfl); (· exact rfl)) | (apply S_fieldP; (· exact rfl); (· exact rfl); (· exact rfl); (· exact rfl); (· exact gt_any rfl)) | apply S_lss | apply S_sub | apply S_not | (apply S_len_ls; (· exact rfl); (· exact gt_any rfl)) | apply S_alloc | (apply S_store1; (· exact rfl); (· exact gt_any rfl); (· exact rfl); (· exact rfl); (· exact rfl); (· exact rfl)) | (apply S_idxLs; (· exact rfl); (· exact rfl); (· exact gt_any rfl); (· exact gt_any rfl)) | apply S_callQ (f := 20) | apply l1In_cv | exact viewL_nil | apply viewL_cons | (apply View.pure; exact PureC.out) | exact FlatC.out | exact gt_any rfl | exact gts_nil | (apply gts_cons; (· exact gt_any rfl)) | exact okCells_of rfl rfl | assumption | (refine ⟨?_, ?_⟩ <;> omega) | exact rfl | fail)
  · have d4 : decide ((k : Int) < ((s.votes.map votA).length : Int)) = false := decide_eq_false (by omega)
    obtain rfl : k = s.votes.length := by omega
    rw [Nat.sub_self, votGo] at hI
    rw [hI]
    repeat' (first | refine T_seq ?_ | refine N_then ?_ | refine N_thenE ?_ | refine N_blockE ?_ | refine N_againSE ?_ | refine T_regX tyOk ?_ | refine S_nil ?_ | refine T_ret ?_ | refine T_exit ?_ | (apply E_tmp; (· exact rfl); (· (repeat' (first | exact pure_int _ _ | exact pure_bool _ | exact pure_str _); done))) | (apply T_ifF; (· exact rfl); (· (first | assumption | exact rfl))) | apply S_move | apply S_assign | (apply S_loadP; (· exact rfl); (· exact gt_any rfl); (· exact rfl); (· exact rfl); (· exact rfl); (· (first | exact ⟨rfl, rfl⟩ | exact ⟨rfl, trivial⟩ | assumption))) | (apply S_fieldP; (· exact rfl); (· exact rfl); (· exact rfl); (· exact rfl); (· exact gt_any rfl)) | apply S_lss | (apply S_len_ls; (· exact rfl); (· exact gt_any rfl)) | exact gt_any rfl | exact rfl | fail)

theorem sgd_zero {vs : List Vld} {s : Sgd} (g0 : setFault vs = 0) (g1 : hbFault s.head = 0) (g2 : s.head.set = setD vs) (g3 : ¬ 5 < s.votes.length) : sgdFault vs s = votGo vs (hbD s.head) s.votes s.votes.length 0 := by
  unfold sgdFault; rw [if_neg (fun k => k g0), if_neg (fun k => k g1), if_neg (fun k => k g2), if_neg g3]

theorem sgdFault_cv (vs : List Vld) (s : Sgd) (hv : vs.length ≤ 1048576) (h : SgdW s ≤ 1048576) : CV Try.prog 9 [vldAS vs, sgdA s] (· = .int .i64 (sgdFault vs s)) := by
  have hml : (s.votes.map votA).length = s.votes.length := by simp
  have c0 := setFault_cv vs hv
  have c1 := hbFault_cv s.head
  by_cases g0 : setFault vs = 0
  · by_cases g1 : hbFault s.head = 0
    · by_cases g2 : s.head.set = setD vs
      · by_cases g3 : 5 < s.votes.length
        · have hvv : sgdFault vs s = 2 := by unfold sgdFault; rw [if_neg (fun k => k g0), if_neg (fun k => k g1), if_neg (fun k => k g2), if_pos g3]
          rw [hvv]
          rw [g0] at c0
          rw [g1] at c1
          have d0 : (!decide ((0 : Int) = 0)) = false := rfl
          have c2 := setDigest_cv vs g0
          obtain ⟨⟨_, hset32, _⟩, _⟩ := hb_zero g1
          have hsl := setD_length vs
          have c3 := equal_cv s.head.set (setD vs)
          have d2 : (!decide (s.head.set = setD vs)) = false := by rw [decide_eq_true g2]; rfl
          have d3 : decide ((5 : Int) < ((s.votes.map votA).length : Int)) = true := decide_eq_true (by omega)
          refine CV_intro tyOk Try.func9 (by kernel_rfl) rfl 68 rfl (by simp) [.tmp 4] rfl ?_
          intro w0 ok0
          repeat' (first | refine T_seq ?_ | refine N_then ?_ | refine N_thenR ?_ | refine N_blockR ?_ | refine T_regX tyOk ?_ | (apply T_drawM (id := 7) 5 tyOk mixed; (· exact rfl); (· exact rfl); (· kernel_rfl); (· exact Nat.le_of_ble_eq_true rfl)) | refine S_nil ?_ | refine T_skip ?_ | refine T_ret ?_ | refine T_block ?_ | (apply E_tmp; (· exact rfl); (· (repeat' (first | exact pure_int _ _ | exact pure_bool _ | exact pure_str _); done))) | (apply T_ifT; (· exact rfl); (· (first | assumption | exact rfl))) | (apply T_ifF; (· exact rfl); (· (first | assumption | exact rfl))) | apply S_move | apply S_assign | (apply S_loadP; (· exact rfl); (· exact gt_any rfl); (· exact rfl); (· exact rfl); (· exact rfl); (· (first | exact ⟨rfl, rfl⟩ | exact ⟨rfl, trivial⟩ | assumption))) | (apply M_loadA; (· exact rfl); (· exact rfl); (· exact gt_any rfl); (· exact rfl); (· exact rfl); (· (repeat' constructor))) | (apply S_fieldP; (· exact rfl); (· exact rfl); (· exact rfl); (· exact rfl); (· exact gt_any rfl)) | apply S_gtr | (apply S_neq; (· exact gt_any rfl); (· exact gt_any rfl)) | apply S_not | (apply S_len_ls; (· exact rfl); (· exact gt_any rfl)) | apply S_box | apply S_callQ (f := 25) | apply c0 | apply S_callQ (f := 26) | apply c1 | apply S_call (f := 28) | apply c2 | apply S_callQ (f := 27) | apply c3 | exact viewL_nil | apply viewL_cons | (apply View.pure; exact PureC.out) | exact FlatC.out | exact PureLC.out | exact gt_any rfl | exact gts_nil | (apply gts_cons; (· exact gt_any rfl)) | exact okCells_of rfl rfl | exact rfl | fail)
        · rw [sgd_zero g0 g1 g2 g3]
          exact sgdLoop_cv vs s h g0 g1 g2 g3
      · have hvv : sgdFault vs s = 1 := by unfold sgdFault; rw [if_neg (fun k => k g0), if_neg (fun k => k g1), if_pos g2]
        rw [hvv]
        rw [g0] at c0
        rw [g1] at c1
        have d0 : (!decide ((0 : Int) = 0)) = false := rfl
        have c2 := setDigest_cv vs g0
        obtain ⟨⟨_, hset32, _⟩, _⟩ := hb_zero g1
        have hsl := setD_length vs
        have c3 := equal_cv s.head.set (setD vs)
        have d2 : (!decide (s.head.set = setD vs)) = true := by rw [decide_eq_false g2]; rfl
        refine CV_intro tyOk Try.func9 (by kernel_rfl) rfl 68 rfl (by simp) [.tmp 4] rfl ?_
        intro w0 ok0
        repeat' (first | refine T_seq ?_ | refine N_then ?_ | refine N_thenR ?_ | refine N_blockR ?_ | refine T_regX tyOk ?_ | (apply T_drawM (id := 7) 5 tyOk mixed; (· exact rfl); (· exact rfl); (· kernel_rfl); (· exact Nat.le_of_ble_eq_true rfl)) | refine S_nil ?_ | refine T_skip ?_ | refine T_ret ?_ | refine T_block ?_ | (apply E_tmp; (· exact rfl); (· (repeat' (first | exact pure_int _ _ | exact pure_bool _ | exact pure_str _); done))) | (apply T_ifT; (· exact rfl); (· (first | assumption | exact rfl))) | (apply T_ifF; (· exact rfl); (· (first | assumption | exact rfl))) | apply S_move | apply S_assign | (apply S_loadP; (· exact rfl); (· exact gt_any rfl); (· exact rfl); (· exact rfl); (· exact rfl); (· (first | exact ⟨rfl, rfl⟩ | exact ⟨rfl, trivial⟩ | assumption))) | (apply M_loadA; (· exact rfl); (· exact rfl); (· exact gt_any rfl); (· exact rfl); (· exact rfl); (· (repeat' constructor))) | (apply S_fieldP; (· exact rfl); (· exact rfl); (· exact rfl); (· exact rfl); (· exact gt_any rfl)) | (apply S_neq; (· exact gt_any rfl); (· exact gt_any rfl)) | apply S_not | apply S_box | apply S_callQ (f := 25) | apply c0 | apply S_callQ (f := 26) | apply c1 | apply S_call (f := 28) | apply c2 | apply S_callQ (f := 27) | apply c3 | exact viewL_nil | apply viewL_cons | (apply View.pure; exact PureC.out) | exact FlatC.out | exact PureLC.out | exact gt_any rfl | exact gts_nil | (apply gts_cons; (· exact gt_any rfl)) | exact okCells_of rfl rfl | exact rfl | fail)
    · have hvv : sgdFault vs s = hbFault s.head := by unfold sgdFault; rw [if_neg (fun k => k g0), if_pos g1]
      rw [hvv]
      rw [g0] at c0
      have d0 : (!decide ((0 : Int) = 0)) = false := rfl
      have d1 : (!decide (hbFault s.head = 0)) = true := by rw [decide_eq_false g1]; rfl
      refine CV_intro tyOk Try.func9 (by kernel_rfl) rfl 68 rfl (by simp) [.tmp 4] rfl ?_
      intro w0 ok0
      repeat' (first | refine T_seq ?_ | refine N_then ?_ | refine N_thenR ?_ | refine T_regX tyOk ?_ | refine S_nil ?_ | refine T_skip ?_ | refine T_ret ?_ | (apply E_tmp; (· exact rfl); (· (repeat' (first | exact pure_int _ _ | exact pure_bool _ | exact pure_str _); done))) | (apply T_ifT; (· exact rfl); (· (first | assumption | exact rfl))) | (apply T_ifF; (· exact rfl); (· (first | assumption | exact rfl))) | apply S_move | apply S_assign | (apply M_loadA; (· exact rfl); (· exact rfl); (· exact gt_any rfl); (· exact rfl); (· exact rfl); (· (repeat' constructor))) | (apply S_fieldP; (· exact rfl); (· exact rfl); (· exact rfl); (· exact rfl); (· exact gt_any rfl)) | (apply S_neq; (· exact gt_any rfl); (· exact gt_any rfl)) | apply S_box | apply S_callQ (f := 25) | apply c0 | apply S_callQ (f := 26) | apply c1 | exact viewL_nil | apply viewL_cons | (apply View.pure; exact PureC.out) | exact FlatC.out | exact gt_any rfl | exact gts_nil | (apply gts_cons; (· exact gt_any rfl)) | exact okCells_of rfl rfl | exact rfl | fail)
  · have hvv : sgdFault vs s = setFault vs := by unfold sgdFault; rw [if_pos g0]
    rw [hvv]
    have d0 : (!decide (setFault vs = 0)) = true := by rw [decide_eq_false g0]; rfl
    refine CV_intro tyOk Try.func9 (by kernel_rfl) rfl 68 rfl (by simp) [.tmp 4] rfl ?_
    intro w0 ok0
    repeat' (first | refine T_seq ?_ | refine N_then ?_ | refine N_thenR ?_ | refine T_regX tyOk ?_ | refine S_nil ?_ | refine T_ret ?_ | (apply E_tmp; (· exact rfl); (· (repeat' (first | exact pure_int _ _ | exact pure_bool _ | exact pure_str _); done))) | (apply T_ifT; (· exact rfl); (· (first | assumption | exact rfl))) | apply S_move | apply S_assign | (apply S_neq; (· exact gt_any rfl); (· exact gt_any rfl)) | apply S_box | apply S_callQ (f := 25) | apply c0 | exact viewL_nil | apply viewL_cons | (apply View.pure; exact PureC.out) | exact FlatC.out | exact gt_any rfl | exact gts_nil | (apply gts_cons; (· exact gt_any rfl)) | exact okCells_of rfl rfl | exact rfl | fail)

theorem specSgdFault_cv (vs : List Vld) (s : Sgd) (hv : vs.length ≤ 1048576) (h : SgdW s ≤ 1048576) (hk : ∀ v ∈ vs, v.key.length ≤ 1048576) : CV Try.prog 6 [vldAS vs, sgdA s] (· = .int .i64 (sgdFault vs s)) := by
  have hml : (s.votes.map votA).length = s.votes.length := by simp
  have c0 := specSetFault_cv vs hv hk
  have c1 := specHbFault_cv s.head
  by_cases g0 : setFault vs = 0
  · by_cases g1 : hbFault s.head = 0
    · by_cases g2 : s.head.set = setD vs
      · by_cases g3 : 5 < s.votes.length
        · have hvv : sgdFault vs s = 2 := by unfold sgdFault; rw [if_neg (fun k => k g0), if_neg (fun k => k g1), if_neg (fun k => k g2), if_pos g3]
          rw [hvv]
          rw [g0] at c0
          rw [g1] at c1
          have d0 : (!decide ((0 : Int) = 0)) = false := rfl
          have c2 := l7Digest_cv vs g0
          obtain ⟨⟨_, hset32, _⟩, _⟩ := hb_zero g1
          have hsl := setD_length vs
          have c3 := same_cv s.head.set (setD vs) (by omega) (by omega)
          have d2 : (!decide (s.head.set = setD vs)) = false := by rw [decide_eq_true g2]; rfl
          have d3 : decide ((5 : Int) < ((s.votes.map votA).length : Int)) = true := decide_eq_true (by omega)
          refine CV_intro tyOk Try.func6 (by kernel_rfl) rfl 81 rfl (by simp) [.tmp 4] rfl ?_
          intro w0 ok0
          repeat' (first | refine T_seq ?_ | refine N_then ?_ | refine N_thenR ?_ | refine T_regX tyOk ?_ | (apply T_drawM (id := 7) 5 tyOk mixed; (· exact rfl); (· exact rfl); (· kernel_rfl); (· exact Nat.le_of_ble_eq_true rfl)) | refine S_nil ?_ | refine T_skip ?_ | refine T_ret ?_ | (apply E_tmp; (· exact rfl); (· (repeat' (first | exact pure_int _ _ | exact pure_bool _ | exact pure_str _); done))) | (apply T_ifT; (· exact rfl); (· (first | assumption | exact rfl))) | (apply T_ifF; (· exact rfl); (· (first | assumption | exact rfl))) | apply S_move | apply S_assign | (apply S_loadP; (· exact rfl); (· exact gt_any rfl); (· exact rfl); (· exact rfl); (· exact rfl); (· (first | exact ⟨rfl, rfl⟩ | exact ⟨rfl, trivial⟩ | assumption))) | (apply M_loadA; (· exact rfl); (· exact rfl); (· exact gt_any rfl); (· exact rfl); (· exact rfl); (· (repeat' constructor))) | (apply S_fieldP; (· exact rfl); (· exact rfl); (· exact rfl); (· exact rfl); (· exact gt_any rfl)) | apply S_gtr | (apply S_neq; (· exact gt_any rfl); (· exact gt_any rfl)) | apply S_not | (apply S_len_ls; (· exact rfl); (· exact gt_any rfl)) | apply S_box | apply S_callQ (f := 15) | apply c0 | apply S_callQ (f := 16) | apply c1 | apply S_call (f := 18) | apply c2 | apply S_callQ (f := 17) | apply c3 | exact viewL_nil | apply viewL_cons | (apply View.pure; exact PureC.out) | exact FlatC.out | exact PureLC.out | exact gt_any rfl | exact gts_nil | (apply gts_cons; (· exact gt_any rfl)) | exact okCells_of rfl rfl | exact rfl | fail)
        · rw [sgd_zero g0 g1 g2 g3]
          exact specSgdLoop_cv vs s h hk g0 g1 g2 g3
      · have hvv : sgdFault vs s = 1 := by unfold sgdFault; rw [if_neg (fun k => k g0), if_neg (fun k => k g1), if_pos g2]
        rw [hvv]
        rw [g0] at c0
        rw [g1] at c1
        have d0 : (!decide ((0 : Int) = 0)) = false := rfl
        have c2 := l7Digest_cv vs g0
        obtain ⟨⟨_, hset32, _⟩, _⟩ := hb_zero g1
        have hsl := setD_length vs
        have c3 := same_cv s.head.set (setD vs) (by omega) (by omega)
        have d2 : (!decide (s.head.set = setD vs)) = true := by rw [decide_eq_false g2]; rfl
        refine CV_intro tyOk Try.func6 (by kernel_rfl) rfl 81 rfl (by simp) [.tmp 4] rfl ?_
        intro w0 ok0
        repeat' (first | refine T_seq ?_ | refine N_then ?_ | refine N_thenR ?_ | refine T_regX tyOk ?_ | (apply T_drawM (id := 7) 5 tyOk mixed; (· exact rfl); (· exact rfl); (· kernel_rfl); (· exact Nat.le_of_ble_eq_true rfl)) | refine S_nil ?_ | refine T_skip ?_ | refine T_ret ?_ | (apply E_tmp; (· exact rfl); (· (repeat' (first | exact pure_int _ _ | exact pure_bool _ | exact pure_str _); done))) | (apply T_ifT; (· exact rfl); (· (first | assumption | exact rfl))) | (apply T_ifF; (· exact rfl); (· (first | assumption | exact rfl))) | apply S_move | apply S_assign | (apply S_loadP; (· exact rfl); (· exact gt_any rfl); (· exact rfl); (· exact rfl); (· exact rfl); (· (first | exact ⟨rfl, rfl⟩ | exact ⟨rfl, trivial⟩ | assumption))) | (apply M_loadA; (· exact rfl); (· exact rfl); (· exact gt_any rfl); (· exact rfl); (· exact rfl); (· (repeat' constructor))) | (apply S_fieldP; (· exact rfl); (· exact rfl); (· exact rfl); (· exact rfl); (· exact gt_any rfl)) | (apply S_neq; (· exact gt_any rfl); (· exact gt_any rfl)) | apply S_not | apply S_box | apply S_callQ (f := 15) | apply c0 | apply S_callQ (f := 16) | apply c1 | apply S_call (f := 18) | apply c2 | apply S_callQ (f := 17) | apply c3 | exact viewL_nil | apply viewL_cons | (apply View.pure; exact PureC.out) | exact FlatC.out | exact PureLC.out | exact gt_any rfl | exact gts_nil | (apply gts_cons; (· exact gt_any rfl)) | exact okCells_of rfl rfl | exact rfl | fail)
    · have hvv : sgdFault vs s = hbFault s.head := by unfold sgdFault; rw [if_neg (fun k => k g0), if_pos g1]
      rw [hvv]
      rw [g0] at c0
      have d0 : (!decide ((0 : Int) = 0)) = false := rfl
      have d1 : (!decide (hbFault s.head = 0)) = true := by rw [decide_eq_false g1]; rfl
      refine CV_intro tyOk Try.func6 (by kernel_rfl) rfl 81 rfl (by simp) [.tmp 4] rfl ?_
      intro w0 ok0
      repeat' (first | refine T_seq ?_ | refine N_then ?_ | refine N_thenR ?_ | refine T_regX tyOk ?_ | refine S_nil ?_ | refine T_skip ?_ | refine T_ret ?_ | (apply E_tmp; (· exact rfl); (· (repeat' (first | exact pure_int _ _ | exact pure_bool _ | exact pure_str _); done))) | (apply T_ifT; (· exact rfl); (· (first | assumption | exact rfl))) | (apply T_ifF; (· exact rfl); (· (first | assumption | exact rfl))) | apply S_move | apply S_assign | (apply M_loadA; (· exact rfl); (· exact rfl); (· exact gt_any rfl); (· exact rfl); (· exact rfl); (· (repeat' constructor))) | (apply S_fieldP; (· exact rfl); (· exact rfl); (· exact rfl); (· exact rfl); (· exact gt_any rfl)) | (apply S_neq; (· exact gt_any rfl); (· exact gt_any rfl)) | apply S_box | apply S_callQ (f := 15) | apply c0 | apply S_callQ (f := 16) | apply c1 | exact viewL_nil | apply viewL_cons | (apply View.pure; exact PureC.out) | exact FlatC.out | exact gt_any rfl | exact gts_nil | (apply gts_cons; (· exact gt_any rfl)) | exact okCells_of rfl rfl | exact rfl | fail)
  · have hvv : sgdFault vs s = setFault vs := by unfold sgdFault; rw [if_pos g0]
    rw [hvv]
    have d0 : (!decide (setFault vs = 0)) = true := by rw [decide_eq_false g0]; rfl
    refine CV_intro tyOk Try.func6 (by kernel_rfl) rfl 81 rfl (by simp) [.tmp 4] rfl ?_
    intro w0 ok0
    repeat' (first | refine T_seq ?_ | refine N_then ?_ | refine N_thenR ?_ | refine T_regX tyOk ?_ | refine S_nil ?_ | refine T_ret ?_ | (apply E_tmp; (· exact rfl); (· (repeat' (first | exact pure_int _ _ | exact pure_bool _ | exact pure_str _); done))) | (apply T_ifT; (· exact rfl); (· (first | assumption | exact rfl))) | apply S_move | apply S_assign | (apply S_neq; (· exact gt_any rfl); (· exact gt_any rfl)) | apply S_box | apply S_callQ (f := 15) | apply c0 | exact viewL_nil | apply viewL_cons | (apply View.pure; exact PureC.out) | exact FlatC.out | exact gt_any rfl | exact gts_nil | (apply gts_cons; (· exact gt_any rfl)) | exact okCells_of rfl rfl | exact rfl | fail)

end Go.Proofs.Ytoempiaimebncaa
