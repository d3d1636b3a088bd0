/- The law of the latest try. -/
import Derived.Test.YtgakkecaflppfaaYb
import Derived.Test.YtgakkecaflppfaaWs
import Derived.Test.YtgakkecaflppfaaWt
set_option maxRecDepth 100000
set_option maxHeartbeats 3200000
set_option linter.unusedSimpArgs false
set_option linter.unusedVariables false
namespace Go.Proofs.Ytgakkecaflppfaa
open Go.Av
attribute [local irreducible] T thenQ blockQ againQ againS WX retV retR Gt Gts GtsP okCells CV CR Av.Pure

theorem relRes_view {bx : List (Nat × Option Box)} {id : Nat} {k c : Int} {q : List Itm} (hb : box? bx id = boxQ q) : View bx (relResB id k c q.length) (relResA k c q) :=
  view_agg ⟨.pure (pure_int _ _), .pure (pure_int _ _), view_slA hb (by simp) PureEC.out, trivial⟩

theorem implScanNonce_cv (c : Int) (q : List Itm) (n : Int) (h : q.length ≤ 1048576) : CV Try.prog 45 [relA c q, .int .i64 n] (· = relResA (snCode c q n) (snC c q n) (snQ c q n)) :=
  (implScanNonce_cr c q n h 0).toCV fun r b n ⟨e1, e2, e3⟩ => by subst e1 e2; exact relRes_view rfl

theorem implTryItem_cv (c : Int) (q : List Itm) (n t : Int) (h : q.length ≤ 1048576) : CV Try.prog 46 [relA c q, .int .i64 n, .int .i64 t] (· = relResA (tnCode c q n t) (tnC c q n t) (tnQ c q n t)) :=
  (implTryItem_cr c q n t h 0).toCV fun r b n ⟨e1, e2, e3⟩ => by subst e1 e2; exact relRes_view rfl

theorem scan0_cv (n : Int) : CV Try.prog 45 [.agg [.int .i64 0, .ls 0 true true []], .int .i64 n] (· = relResA (snCode 0 [] n) (snC 0 [] n) (snQ 0 [] n)) := by
  refine (implScanNonce_cv 0 [] n (by simp)).args rfl fun i x y hx hy => ?_
  match i, hx, hy with
  | 0, hx, hy =>
    obtain rfl := Option.some.inj hx
    obtain rfl := Option.some.inj hy
    refine loose_agg rfl fun j c d hc hd => ?_
    match j, hc, hd with
    | 0, hc, hd => obtain rfl := Option.some.inj hc; obtain rfl := Option.some.inj hd; exact Loose.refl _
    | 1, hc, hd => obtain rfl := Option.some.inj hc; obtain rfl := Option.some.inj hd; exact loose_nil _ _ _ _
  | 1, hx, hy => obtain rfl := Option.some.inj hx; obtain rfl := Option.some.inj hy; exact Loose.refl _

/-- The one item behind so many tries. -/
def latItm (now : Int) : Nat → Itm
  | 0 => ⟨1, 0, 0⟩
  | k + 1 => ⟨1, (waitN (k + 1) : Nat), latN now (k + 1)⟩
theorem latItm_nonce (now : Int) (k : Nat) : (latItm now k).nonce = 1 := by cases k <;> rfl
theorem latItm_tries (now : Int) (k : Nat) : (latItm now k).tries = (waitN k : Nat) := by cases k <;> rfl

theorem latItm_after (now : Int) {k : Nat} (h : 0 < k) : (latItm now k).after = latN now k := by
  cases k with
  | zero => omega
  | succ k => rfl

theorem find_one (x : Itm) (h : x.nonce = 1) : findI [x] 1 = 0 := by
  unfold findI
  simp only [List.length_cons, List.length_nil, findGo]
  rw [if_pos (by simpa using h)]
  rfl

theorem lat_item (now : Int) (k : Nat) (h0 : 0 ≤ now) (h1 : now ≤ 1099511627776) (hk : k ≤ 20) : itemOk 1 (latItm now k) := by
  have hb := latN_le now k
  have hw : waitN k ≤ 8 := by unfold waitN; omega
  unfold itemOk
  rw [latItm_nonce, latItm_tries]
  cases k with
  | zero => simp [latItm]; omega
  | succ k => simp only [latItm]; omega

theorem lat_whole (now : Int) (k : Nat) (h0 : 0 ≤ now) (h1 : now ≤ 1099511627776) (hk : k ≤ 20) : relFault 1 [latItm now k] = 0 := by
  have hi := lat_item now k h0 h1 hk
  unfold relFault
  rw [if_neg (by omega), if_neg (by simp)]
  simp only [List.length_cons, List.length_nil, relGo]
  rw [relStep_ok (by simpa using hi) (by omega)]
  rfl

theorem lat_try (now : Int) (k : Nat) (h0 : 0 ≤ now) (h1 : latN now k ≤ 1099511627776) (hw : relFault 1 [latItm now k] = 0) : tnCode 1 [latItm now k] 1 (latN now k) = 0 ∧ tnC 1 [latItm now k] 1 (latN now k) = 1 ∧ tnQ 1 [latItm now k] 1 (latN now k) = [latItm now (k + 1)] := by
  have hf := find_one (latItm now k) (latItm_nonce now k)
  have hb := latN_le now k
  have ht : tryCode [latItm now k] 1 (latN now k) = 0 := by
    unfold tryCode
    rw [if_neg (by omega), hf, if_neg (by omega)]
  obtain ⟨e1, e2, e3⟩ := tn_ok hw ht
  refine ⟨e1, e2, e3.trans ?_⟩
  have hm : tryM (latItm now k) = ((waitN (k + 1) : Nat) : Int) := by
    unfold tryM
    rw [latItm_tries]
    unfold waitN
    split <;> omega
  unfold tryQ
  rw [hf]
  simp only [Int.toNat_zero, List.set_cons_zero, List.getD_cons_zero, tryItm, latItm_nonce, hm, Int.toNat_natCast]
  rfl

theorem lat_late (now : Int) (k : Nat) (h1 : 1099511627776 < latN now k) (hw : relFault 1 [latItm now k] = 0) : tnCode 1 [latItm now k] 1 (latN now k) = 3 := by
  have ht : tryCode [latItm now k] 1 (latN now k) = 3 := by
    unfold tryCode
    rw [if_pos (by omega)]
  rw [(tn_err hw (by rw [ht]; decide)).1, ht]

theorem law_Latest (code : List UInt8) (hcl : code.length ≤ 9223372036854775807) : CV Try.prog 9 [sl1 (bA code)] (· = .bool true) := by
  refine CV_intro tyOk Try.func9 (by kernel_rfl) rfl 69 rfl (by simp) [.tmp 2] rfl ?_
  intro w0 ok0
  have c0 := lwBig_cv code
  by_cases hbig : 1048576 < code.length
  · have d0 : decide (1048576 < code.length) = true := by simpa using hbig
    repeat' (first | refine T_seq ?_ | refine N_then ?_ | refine N_thenR ?_ | refine T_regX tyOk ?_ | refine S_nil ?_ | refine T_ret ?_ | (apply E_tmp; (· exact rfl); (· (repeat' (first | exact pure_int _ _ | exact pure_bool _ | exact pure_str _); done))) | (apply T_ifT; (· exact rfl); (· (first | assumption | exact rfl))) | apply S_move | apply S_assign | apply S_callQ (f := 43) | apply c0 | exact viewL_nil | apply viewL_cons | (apply View.pure; exact PureC.out) | exact FlatC.out | exact gt_any rfl | exact gts_nil | (apply gts_cons; (· exact gt_any rfl)) | exact rfl | fail)
  have d0 : decide (1048576 < code.length) = false := by simpa using hbig
  have c1 := drawLatestBy_cv code (by omega)
  generalize pickV code 1 [nextV code 0 60, 0, 1099511627776, 1099511627777, -1] = now at *
  generalize pickV code 3 [nextV code 2 21, 0, 1, 20, 21, -1] = tries at *
  have c2 := implLatestBy_cv now tries
  have c3 := specLatestBy_cv now tries
  by_cases hok : latOk now tries = true
  · have hC : latC now tries = 0 := if_pos hok
    have hV : latV now tries = latN now tries.toNat := if_pos hok
    rw [hC, hV] at c2
    have hr : (0 ≤ now ∧ now ≤ 1099511627776) ∧ (0 ≤ tries ∧ tries ≤ 20) := by
      unfold latOk at hok
      simpa using hok
    obtain ⟨⟨h0, h1⟩, h2, h3⟩ := hr
    have d1 : (!decide ((0 : Int) = 0)) = false := by decide
    have c4 := scan0_cv 1
    have hs1 : snCode 0 [] 1 = 0 ∧ snC 0 [] 1 = 1 ∧ snQ 0 [] 1 = [latItm now 0] := ⟨rfl, rfl, rfl⟩
    rw [hs1.1, hs1.2.1, hs1.2.2] at c4
    repeat' (first | refine T_seq ?_ | refine N_then ?_ | refine T_regX tyOk ?_ | refine S_nil ?_ | refine T_skip ?_ | refine T_block ?_ | (apply T_ifF; (· exact rfl); (· (first | assumption | exact rfl))) | apply S_move | apply S_assign | (apply S_loadP; (· exact rfl); (· exact gt_any rfl); (· exact rfl); (· exact rfl); (· exact rfl); (· (first | exact ⟨rfl, rfl⟩ | exact ⟨rfl, trivial⟩ | assumption))) | (apply M_fieldA; (· exact rfl); (· exact rfl); (· exact rfl); (· exact rfl); (· exact gt_any rfl); (· (repeat' constructor))) | (apply S_fieldP; (· exact rfl); (· exact rfl); (· exact rfl); (· exact rfl); (· exact gt_any rfl)) | (apply S_neq; (· exact gt_any rfl); (· exact gt_any rfl)) | apply S_extract | apply S_alloc | (apply S_store1; (· exact rfl); (· exact gt_any rfl); (· exact rfl); (· exact rfl); (· exact rfl); (· exact rfl)) | (apply S_build; (· exact rfl); (· exact rfl); (· exact rfl); (· (repeat' (first | exact gtsP_nil | exact gt_any rfl | apply gtsP_cons))); (· (repeat' (first | exact BuildR.nil _ | (apply BuildR.cons; (· exact rfl); (· exact rfl); (· exact rfl); (· exact rfl); (· (first | nofun | assumption)); (· (repeat' constructor))))))) | apply S_call (f := 44) | apply c1 | apply S_call (f := 16) | apply c2 | apply S_call (f := 45) | apply c4 | apply S_callQ (f := 43) | apply lwBig_cv | exact viewL_nil | apply viewL_cons | (apply View.pure; exact PureC.out) | exact FlatC.out | exact PureLC.out | exact gt_any rfl | exact gts_nil | (apply gts_cons; (· exact gt_any rfl)) | exact okCells_of rfl rfl | exact rfl | fail)
    refine T_roundsS (α := Nat) (fun k => ⟨[(4, .int .i64 tries), (5, .ptr 0 0 0), (6, .ptr 1 0 0), (7, .int .i64 (latN now k)), (8, .int .i64 k)], [(0, some ⟨[.agg [.int .i64 0, .int .i64 (latN now tries.toNat)]], 2, false, false⟩), (1, some ⟨[relA 1 [latItm now k]], 2, false, false⟩)], 2⟩)
      (fun k => tries.toNat - k) (fun k => k ≤ tries.toNat) 0 ?_ (by omega) ?_
    · exact ((weak_of (by repeat' (first | exact keepE_nil | refine keepE_cons rfl ?_)) (by repeat' (first | exact keepB_nil | refine keepB_cons (by first | rfl | exact congrArg (fun l => some (Box.mk l _ _ _)) hset) ?_)) (Nat.le_refl _))).sub
    intro k hk
    have hw := lat_whole now k h0 h1 (by omega)
    have c5 := implTryItem_cv 1 [latItm now k] 1 (latN now k) (by simp)
    have w1 : IntKind.wrap .i64 ((k : Int) + 1) = ((k + 1 : Nat) : Int) := by rw [wrap_i64 (by omega) (by omega)]; omega
    by_cases h4 : k < tries.toNat
    · have e1 : decide ((k : Int) < tries) = true := by simp only [decide_eq_true_eq]; omega
      by_cases h5 : latN now k ≤ 1099511627776
      · obtain ⟨t1, t2, t3⟩ := lat_try now k h0 h5 hw
        rw [t1, t2, t3] at c5
        have hrg : 0 ≤ (0 : Int) ∧ (0 : Int) < (([latItm now (k + 1)].map itemA).length : Int) := by simp
        repeat' (first | refine T_seq ?_ | refine N_then ?_ | refine N_block ?_ | refine T_regX tyOk ?_ | refine S_nil ?_ | refine T_skip ?_ | refine T_block ?_ | (apply T_ifT; (· exact rfl); (· (first | assumption | exact rfl))) | (apply T_ifF; (· exact rfl); (· (first | assumption | exact rfl))) | apply S_move | apply S_assign | (apply S_loadP; (· exact rfl); (· exact gt_any rfl); (· exact rfl); (· exact rfl); (· exact rfl); (· (first | exact ⟨rfl, rfl⟩ | exact ⟨rfl, trivial⟩ | assumption))) | (apply S_loadW; (· exact rfl); (· exact gt_any rfl); (· exact rfl); (· exact rfl); (· exact rfl); (· exact rfl); (· exact rfl); (· exact rfl)) | (apply M_loadA; (· exact rfl); (· exact rfl); (· exact gt_any rfl); (· exact rfl); (· exact rfl); (· (repeat' constructor))) | (apply S_loadV; (· exact rfl); (· exact gt_any rfl); (· exact rfl); (· (first | exact ⟨rfl, rfl⟩ | exact ⟨rfl, trivial⟩ | assumption))) | (apply S_fieldP; (· exact rfl); (· exact rfl); (· exact rfl); (· exact rfl); (· exact gt_any rfl)) | (apply S_fieldV; (· exact rfl); (· exact rfl); (· exact rfl); (· exact rfl); (· exact gt_any rfl)) | apply S_lss | (apply S_neq; (· exact gt_any rfl); (· exact gt_any rfl)) | apply S_add | apply S_alloc | (apply S_store1; (· exact rfl); (· exact gt_any rfl); (· exact rfl); (· exact rfl); (· exact rfl); (· exact rfl)) | (apply S_idxLs; (· exact rfl); (· exact rfl); (· exact gt_any rfl); (· exact gt_any rfl)) | apply S_call (f := 46) | apply c5 | exact PureLC.out | exact gt_any rfl | exact gts_nil | (apply gts_cons; (· exact gt_any rfl)) | exact okCells_of rfl rfl | assumption | exact rfl | fail)
        exact N_againS (k + 1) (sub_names [(0, 0), (1, 1)] (k0 := 0) rfl (by rfl) (by repeat' (first | exact pullE_nil | (apply pullE_cons; (· exact rfl)) | exact Ren.sl _ _ _ _ | (apply ren_slE; (· first | exact rfl | omega); (· first | exact rfl | assumption | (simp [bA_length]; done) | (simp [bA_length]; omega)); (· first | exact rfl | assumption | (simp [bA_length]; done) | (simp [bA_length]; omega))) | exact Ren.ptr _ _ _ | (apply Ren.pure; (first | exact PureC.out | exact PureLC.out | assumption)) | exact renL_nil | apply renL_cons | apply ren_agg | apply ren_tup)) (by repeat' (first | exact pullB_nil | (apply pullB_pure; (· first | exact rfl | exact congrArg (fun l => some (Box.mk l _ _ _)) hset); (· (exact PureEC.out))) | (apply pullB_one; (· exact rfl)) | exact renL_nil | apply renL_cons | exact Ren.sl _ _ _ _ | exact Ren.ptr _ _ _ | (apply Ren.pure; (first | exact PureC.out | exact PureLC.out | assumption)) | apply ren_agg)) (by repeat' (first | exact lowE_nil | apply lowE_cons | exact Low.sl _ _ _ _ (by decide) | exact Low.ptr _ _ _ (by decide) | (apply Low.pure; (first | exact PureC.out | exact PureLC.out | assumption)) | exact lowL_nil | apply lowL_cons | apply low_agg | apply low_tup)) (by repeat' (first | exact lowBs_nil | apply lowBs_cons | (apply PureB.low; (exact PureEC.out)) | apply lowX_one | exact lowX_nil | exact lowL_nil | apply lowL_cons | exact Low.sl _ _ _ _ (by decide) | exact Low.ptr _ _ _ (by decide) | (apply Low.pure; (first | exact PureC.out | exact PureLC.out | assumption))))) (by omega) (by omega)
      · have e2 : decide ((1099511627776 : Int) < latN now k) = true := by simp only [decide_eq_true_eq]; omega
        have t1 := lat_late now k (by omega) hw
        rw [t1] at c5
        have e3 : (!decide ((3 : Int) = 0)) = true := by decide
        have e4 : decide ((3 : Int) = 3) = true := by decide
        generalize tnC 1 [latItm now k] 1 (latN now k) = c' at *
        generalize tnQ 1 [latItm now k] 1 (latN now k) = q' at *
        repeat' (first | refine T_seq ?_ | refine N_then ?_ | refine N_thenR ?_ | refine N_blockR ?_ | refine N_againSR ?_ | refine T_regX tyOk ?_ | refine S_nil ?_ | refine T_skip ?_ | refine T_ret ?_ | refine T_block ?_ | (apply E_tmp; (· exact rfl); (· (repeat' (first | exact pure_int _ _ | exact pure_bool _ | exact pure_str _); done))) | (apply T_ifT; (· exact rfl); (· (first | assumption | exact rfl))) | (apply S_gt; (· exact rfl); (· exact rfl); (· (first | assumption | exact rfl))) | apply S_move | apply S_assign | (apply S_pickT; (· exact gt_any rfl); (· (first | assumption | exact rfl))) | (apply S_loadP; (· exact rfl); (· exact gt_any rfl); (· exact rfl); (· exact rfl); (· exact rfl); (· (first | exact ⟨rfl, rfl⟩ | exact ⟨rfl, trivial⟩ | assumption))) | (apply S_loadW; (· exact rfl); (· exact gt_any rfl); (· exact rfl); (· exact rfl); (· exact rfl); (· exact rfl); (· exact rfl); (· exact rfl)) | (apply S_fieldP; (· exact rfl); (· exact rfl); (· exact rfl); (· exact rfl); (· exact gt_any rfl)) | apply S_lss | apply S_gtr | (apply S_eql; (· exact gt_any rfl); (· exact gt_any rfl)) | (apply S_neq; (· exact gt_any rfl); (· exact gt_any rfl)) | apply S_alloc | (apply S_store1; (· exact rfl); (· exact gt_any rfl); (· exact rfl); (· exact rfl); (· exact rfl); (· exact rfl)) | apply S_call (f := 46) | apply c5 | exact PureLC.out | exact gt_any rfl | exact gts_nil | (apply gts_cons; (· exact gt_any rfl)) | exact okCells_of rfl rfl | assumption | exact rfl | fail)
    · have e1 : decide ((k : Int) < tries) = false := by simp only [decide_eq_false_iff_not]; omega
      obtain rfl : k = tries.toNat := by omega
      have e5 : decide (latN now tries.toNat = latN now tries.toNat) = true := by simp
      have e6 : decide (((([latItm now tries.toNat].map itemA).length : Nat) : Int) = 1) = true := by simp
      repeat' (first | refine T_seq ?_ | refine N_then ?_ | refine N_thenE ?_ | refine N_blockE ?_ | refine N_againSE ?_ | refine T_regX tyOk ?_ | refine S_nil ?_ | refine T_ret ?_ | refine T_exit ?_ | (apply E_tmp; (· exact rfl); (· (repeat' (first | exact pure_int _ _ | exact pure_bool _ | exact pure_str _); done))) | (apply T_ifF; (· exact rfl); (· (first | assumption | exact rfl))) | (apply S_gt; (· exact rfl); (· exact rfl); (· (first | assumption | exact rfl))) | apply S_move | apply S_assign | (apply S_pickT; (· exact gt_any rfl); (· (first | assumption | exact rfl))) | (apply S_loadP; (· exact rfl); (· exact gt_any rfl); (· exact rfl); (· exact rfl); (· exact rfl); (· (first | exact ⟨rfl, rfl⟩ | exact ⟨rfl, trivial⟩ | assumption))) | (apply S_fieldP; (· exact rfl); (· exact rfl); (· exact rfl); (· exact rfl); (· exact gt_any rfl)) | apply S_lss | (apply S_eql; (· exact gt_any rfl); (· exact gt_any rfl)) | (apply S_len_ls; (· exact rfl); (· exact gt_any rfl)) | exact gt_any rfl | assumption | exact rfl | fail)
  · have hC : latC now tries = 3 := if_neg hok
    have d1 : (!decide ((3 : Int) = 0)) = true := by decide
    rw [hC] at c2 c3
    repeat' (first | refine T_seq ?_ | refine N_then ?_ | refine N_thenR ?_ | refine T_regX tyOk ?_ | (apply T_drawAll tyOk mixed; (· kernel_rfl)) | refine S_nil ?_ | refine T_skip ?_ | refine T_ret ?_ | (apply E_tmp; (· exact rfl); (· (repeat' (first | exact pure_int _ _ | exact pure_bool _ | exact pure_str _); done))) | (apply T_ifT; (· exact rfl); (· (first | assumption | exact rfl))) | (apply T_ifF; (· exact rfl); (· (first | assumption | exact rfl))) | apply S_move | apply S_assign | (apply S_loadP; (· exact rfl); (· exact gt_any rfl); (· exact rfl); (· exact rfl); (· exact rfl); (· (first | exact ⟨rfl, rfl⟩ | exact ⟨rfl, trivial⟩ | assumption))) | (apply M_field1; (· exact rfl); (· exact rfl); (· exact rfl); (· exact gt_any rfl); (· exact rfl); (· (first | exact ⟨rfl, rfl⟩ | exact ⟨rfl, trivial⟩ | assumption))) | (apply S_fieldP; (· exact rfl); (· exact rfl); (· exact rfl); (· exact rfl); (· exact gt_any rfl)) | (apply S_eql; (· exact gt_any rfl); (· exact gt_any rfl)) | (apply S_neq; (· exact gt_any rfl); (· exact gt_any rfl)) | apply S_extract | apply S_alloc | (apply S_store1; (· exact rfl); (· exact gt_any rfl); (· exact rfl); (· exact rfl); (· exact rfl); (· exact rfl)) | apply S_call (f := 44) | apply c1 | apply S_callQ (f := 16) | apply c2 | apply S_callQ (f := 15) | apply c3 | apply S_callQ (f := 43) | apply lwBig_cv | exact viewL_nil | apply viewL_cons | (apply View.pure; exact PureC.out) | exact FlatC.out | exact PureLC.out | exact gt_any rfl | exact gts_nil | (apply gts_cons; (· exact gt_any rfl)) | exact okCells_of rfl rfl | assumption | exact rfl | fail)

end Go.Proofs.Ytgakkecaflppfaa
