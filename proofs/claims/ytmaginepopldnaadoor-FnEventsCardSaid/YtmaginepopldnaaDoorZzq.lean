/- Strings trimmed by a set of letters. -/
import Derived.Test.YtmaginepopldnaaDoorRa
import Derived.Test.YtmaginepopldnaaDoorGi
set_option maxRecDepth 100000
set_option maxHeartbeats 3200000
set_option linter.unusedSimpArgs false
set_option linter.unusedVariables false
namespace Go.Proofs.YtmaginepopldnaaDoor
open Go.Av
attribute [local irreducible] T thenQ blockQ againQ againS WX retV retR Gt Gts GtsP okCells CV CR Av.Pure

section
variable {P : Program} {ty : TypeId → Option TI} {n : Nat} {ops l : List Oper} {K : St → Prop} {tp : TypeId} {pos : String} {aft : Array Edge} {env : List (Nat × AV)} {bx : List (Nat × Option Box)} {nx : Nat} {d : Tmp} {q : Bool} {t : TypeId} {x i : Operand}
theorem M_idxAV {m : Nat} {e : TypeId} {ei : TI} {cs ds : List AV} {k : IntKind} {ii : Int} (ht : (ty t).map TI.k = some (.arr m e)) (he : ty e = some ei) (hx : Gt env x (.vp cs)) (hi : Gt env i (.int k ii)) (hr : 0 ≤ ii ∧ ii < (m : Int)) (hj : cs.drop (ii.toNat * ei.size) = ds)
    (hd : slotOk n (some d) = true) (h : WX q P ty n ops l ⟨(d, .vp ds) :: env, bx, nx⟩ K) : WX q P ty n ops (⟨some d, .indexAddr t x i, tp, pos, aft, none⟩ :: l) ⟨env, bx, nx⟩ K := by
  subst hj
  exact S_val (p := 0 ≤ ii ∧ ii < (m : Int)) hd (by simp only [valStep, opVal, ht, hi.get bx nx, idx, he, hx.get bx nx]) hr h
end

def inSet (cs : List UInt8) (i : Nat) : Bool := cs.any fun c => decide (c.toNat = i)
def setA (cs : List UInt8) : List AV := (List.range 256).map fun i => .bool (inSet cs i)
theorem setA_length (cs : List UInt8) : (setA cs).length = 256 := by simp [setA]
theorem setA_get (cs : List UInt8) {i : Nat} (h : i < 256) : (setA cs)[i]? = some (.bool (inSet cs i)) := by
  simp [setA, List.getElem?_map, List.getElem?_range h]
theorem setA_nil : setA [] = List.replicate 256 (.bool false) := by
  refine List.ext_getElem? fun i => ?_
  by_cases h : i < 256
  · rw [setA_get _ h, List.getElem?_replicate, if_pos h]; rfl
  · rw [List.getElem?_eq_none (by rw [setA_length]; omega), List.getElem?_eq_none (by simp; omega)]
theorem setA_snoc (cs : List UInt8) (c : UInt8) : (setA cs).set c.toNat (.bool true) = setA (cs ++ [c]) := by
  refine List.ext_getElem? fun i => ?_
  by_cases h : i < 256
  · rw [setA_get _ h, List.getElem?_set]
    by_cases e : c.toNat = i
    · rw [if_pos e, if_pos (by rw [setA_length]; omega)]
      have : inSet (cs ++ [c]) i = true := by simp [inSet, e]
      rw [this]
    · rw [if_neg e, setA_get _ h]
      have : inSet (cs ++ [c]) i = inSet cs i := by simp [inSet, e]
      rw [this]
  · rw [List.getElem?_eq_none (by rw [List.length_set, setA_length]; omega), List.getElem?_eq_none (by rw [setA_length]; omega)]

theorem setA_bool (cs : List UInt8) : ∀ y ∈ setA cs, Av.Pure y := fun y hy => by
  obtain ⟨i, _, rfl⟩ := List.mem_map.1 hy
  exact pure_bool _
theorem pureAll_of : ∀ {l : List AV}, (∀ y ∈ l, Av.Pure y) → PureAll l
  | [], _ => trivial
  | x :: l, h => ⟨h x List.mem_cons_self, pureAll_of fun y hy => h y (List.mem_cons_of_mem _ hy)⟩
theorem setA_cell (cs : List UInt8) : ∀ y ∈ setA cs, y.cellOk = true := fun y hy => by
  obtain ⟨i, _, rfl⟩ := List.mem_map.1 hy
  rfl
attribute [local semireducible] okCells in
theorem setA_ok (cs : List UInt8) : okCells 256 (.agg (setA cs)) := ⟨setA_length cs, setA_cell cs⟩
theorem setA_all (cs : List UInt8) : (setA cs).all AV.cellOk = true := List.all_eq_true.2 (setA_cell cs)
instance (cs : List UInt8) : PureLC (setA cs) := ⟨pureAll_of (setA_bool cs)⟩
instance (cs : List UInt8) : CellsC (setA cs) := ⟨fun y hy => ⟨setA_bool cs y hy, setA_cell cs y hy⟩⟩
instance (cs : List UInt8) : PureC (.vp (setA cs)) := ⟨pure_vp (setA_bool cs)⟩
instance (cs : List UInt8) : PureC (.agg (setA cs)) := ⟨pure_agg (setA_bool cs)⟩
theorem bStr_size (l : List UInt8) : (bStr l).size = l.length := rfl
theorem bStr_list (l : List UInt8) : (bStr l).data.toList = l := rfl

theorem asciiHas_cv (cs : List UInt8) (c : UInt8) : CV Tryd.prog 58 [.vp (setA cs), .int .u8 (c.toNat : Int)] (· = .bool (inSet cs c.toNat)) := by
  refine CV_intro tyOk Tryd.func58 (by kernel_rfl) rfl 10 rfl (by simp) [.tmp 4] rfl ?_
  intro w0 ok0
  have hb := UInt8.toNat_lt c
  have hr : (0 : Int) ≤ (c.toNat : Int) ∧ (c.toNat : Int) < ((256 : Nat) : Int) := by omega
  have hd : (setA cs).drop ((c.toNat : Int).toNat * 1) = .bool (inSet cs c.toNat) :: (setA cs).drop (c.toNat + 1) := by
    rw [Int.toNat_natCast, Nat.mul_one, List.drop_eq_getElem_cons (by rw [setA_length]; omega)]
    congr 1
    exact Option.some.inj ((List.getElem?_eq_getElem _).symm.trans (setA_get cs (by omega)))
  repeat' (first | refine T_seq ?_ | refine N_then ?_ | refine T_regX tyOk ?_ | refine S_nil ?_ | refine T_ret ?_ | (apply E_tmp; (· exact rfl); (· (repeat' (first | exact pure_int _ _ | exact pure_bool _ | exact pure_str _); done))) | (apply M_idxAV; (· exact rfl); (· exact rfl); (· exact gt_any rfl); (· exact gt_any rfl); (· (first | assumption | exact ⟨by omega, by omega⟩)); (· (first | assumption | exact rfl))) | apply S_move | apply S_assign | (apply S_loadV; (· exact rfl); (· exact gt_any rfl); (· exact rfl); (· (first | exact ⟨rfl, rfl⟩ | exact ⟨rfl, trivial⟩ | assumption))) | (apply S_nilV; (· exact gt_any rfl)) | exact gt_any rfl | exact rfl | fail)

theorem makeSet_cv (cs : List UInt8) (h : ∀ c ∈ cs, c.toNat < 128) (hl : cs.length ≤ 1000000) : CV Tryd.prog 46 [.str (bStr cs)] (· = .tup [.agg (setA cs), .bool true]) := by
  refine CV_intro tyOk Tryd.func46 (by kernel_rfl) rfl 21 rfl (by simp) [.cell 2 64, .tmp 3] rfl ?_
  intro w0 ok0
  repeat' (first | refine T_seq ?_ | refine N_then ?_ | refine T_regX tyOk ?_ | refine S_nil ?_ | refine T_block ?_ | apply S_assign | apply S_alloc | exact gt_any rfl | exact okCells_of rfl rfl | exact rfl | fail)
  refine T_roundsS (α := Nat) (fun j => ⟨[(0, .str (bStr cs)), (2, .ptr 0 0 0), (3, .bool false), (4, .int .i64 j)], [(0, some ⟨[.agg (setA (cs.take j))], 256, false, false⟩)], 1⟩)
    (fun j => cs.length - j) (fun j => j ≤ cs.length) 0 ?_ (by omega) ?_
  · rw [List.take_zero, setA_nil]
    exact ((weak_of (by repeat' (first | exact keepE_nil | refine keepE_cons rfl ?_)) (by repeat' (first | exact keepB_nil | refine keepB_cons (by first | rfl | exact congrArg (fun l => some (Box.mk l _ _ _)) hset) ?_)) (Nat.le_refl _))).sub
  intro j hj
  by_cases hjl : j < cs.length
  · have d0 : decide ((j : Int) < ((bStr cs).size : Int)) = true := by rw [bStr_size]; exact decide_eq_true (by omega)
    have hin : (0 : Int) ≤ (j : Int) ∧ (j : Int) < ((bStr cs).size : Int) := by rw [bStr_size]; omega
    have hg : (((bStr cs).data.toList.getD ((j : Int)).toNat 0).toNat : Int) = ((cs.getD j 0).toNat : Int) := by rw [bStr_list, Int.toNat_natCast]
    have hm := h _ (getD_mem cs 0 hjl)
    have d1 : decide ((128 : Int) ≤ ((cs.getD j 0).toNat : Int)) = false := decide_eq_false (by omega)
    have hw1 : IntKind.wrap .i64 ((j : Int) + 1) = ((j + 1 : Nat) : Int) := by rw [wrap_i64 (by omega) (by omega)]; omega
    have htk : cs.take (j + 1) = cs.take j ++ [cs.getD j 0] := by rw [List.take_add_one, List.getD_eq_getElem?_getD, List.getElem?_eq_getElem hjl]; rfl
    have hset : (setA (cs.take j)).set (cs.getD j 0).toNat (.bool true) = setA (cs.take (j + 1)) := by rw [htk]; exact setA_snoc _ _
    have hix : (0 : Int) ≤ ((cs.getD j 0).toNat : Int) ∧ ((cs.getD j 0).toNat : Int) < ((256 : Nat) : Int) := by omega
    have hmx : 0 + (((cs.getD j 0).toNat : Int)).toNat * 1 = (cs.getD j 0).toNat := by rw [Int.toNat_natCast]; omega
    have hsl := setA_length (cs.take j)
    have hlt : (cs.getD j 0).toNat < (setA (cs.take j)).length := by rw [hsl]; omega
    generalize cs.getD j 0 = c at *
    repeat' (first | refine T_seq ?_ | refine N_then ?_ | refine N_block ?_ | refine T_regX tyOk ?_ | refine S_nil ?_ | refine T_skip ?_ | refine T_block ?_ | (apply M_idxAP; (· exact rfl); (· exact rfl); (· exact gt_any rfl); (· exact gt_any rfl); (· (first | assumption | exact ⟨by omega, by omega⟩)); (· (apply mix; first | assumption | exact rfl))) | (apply M_storeAr; (· exact rfl); (· exact gt_any rfl); (· exact rfl); (· exact rfl); (· exact rfl); (· exact rfl); (· exact gt_any rfl); (· exact rfl); (· exact rfl)) | (apply T_ifT; (· exact rfl); (· (first | assumption | exact rfl))) | (apply T_ifF; (· exact rfl); (· (first | assumption | exact rfl))) | apply S_move | apply S_assign | apply S_lss | apply S_geq | apply S_add | (apply S_len_str; (· exact rfl); (· exact gt_any rfl)) | (apply S_idxStr; (· exact rfl); (· exact gt_any rfl); (· exact gt_any rfl)) | (apply mix; first | assumption | exact rfl) | (apply mlen; first | exact rfl | assumption | exact Nat.le_of_ble_eq_true rfl | omega | (simp [bA_length]; done) | (simp [bA_length]; omega)) | exact gt_any rfl | assumption | exact rfl | fail)
    exact N_againS (j + 1) ((weak_of (by repeat' (first | exact keepE_nil | refine keepE_cons rfl ?_)) (by repeat' (first | exact keepB_nil | refine keepB_cons (by first | rfl | exact congrArg (fun l => some (Box.mk l _ _ _)) hset) ?_)) (Nat.le_refl _))).sub (by omega) (by omega)
  · have d0 : decide ((j : Int) < ((bStr cs).size : Int)) = false := by rw [bStr_size]; exact decide_eq_false (by omega)
    obtain rfl : j = cs.length := by omega
    rw [List.take_length]
    have hsl := setA_length cs
    repeat' (first | refine T_seq ?_ | refine N_then ?_ | refine N_thenE ?_ | refine N_blockE ?_ | refine N_againSE ?_ | refine T_regX tyOk ?_ | refine S_nil ?_ | refine T_ret ?_ | refine T_exit ?_ | (apply E_X <;> repeat' (first | exact resL_nil | (apply resL_tmp; (· exact rfl)) | (apply resL_cell; (· exact rfl); (· exact rfl); (· exact rfl); (· exact rfl); (· exact rfl); (· exact rfl)) | (apply resL_arr; (· exact rfl); (· exact rfl); (· exact rfl); (· exact rfl); (· (first | assumption | exact rfl))) | (apply view_aggP; exact PureLC.out) | exact viewL_nil | apply viewL_cons | apply view_nothingE | (apply view_slE; (· exact rfl); (· first | exact rfl | assumption | (simp [bA_length]; done) | (simp [bA_length]; omega) | omega); (· exact PureEC.out)) | (apply view_loose; (· exact PureEC.out)) | apply view_agg | apply view_tup | (apply View.ofEq; (· exact PureC.out)) | exact rfl)) | (apply M_loadWA; (· exact rfl); (· exact rfl); (· exact gt_any rfl); (· exact rfl); (· exact rfl); (· (first | assumption | exact rfl))) | (apply T_ifF; (· exact rfl); (· (first | assumption | exact rfl))) | apply S_move | apply S_assign | apply S_lss | (apply S_len_str; (· exact rfl); (· exact gt_any rfl)) | (apply S_store1; (· exact rfl); (· exact gt_any rfl); (· exact rfl); (· exact rfl); (· exact rfl); (· exact rfl)) | exact gt_any rfl | exact okCells_of rfl rfl | exact rfl | fail)

def trR (cs l : List UInt8) : Nat → Nat
  | 0 => 0
  | k + 1 => if inSet cs (l.getD k 0).toNat = true then trR cs l k else k + 1
def trL (cs : List UInt8) : List UInt8 → List UInt8
  | [] => []
  | c :: l => if inSet cs c.toNat = true then trL cs l else c :: l
theorem bStr_extract (l : List UInt8) (a b : Nat) : (bStr l).extract a b = bStr ((l.drop a).take (b - a)) := by
  apply ByteArray.ext
  rw [ByteArray.data_extract]
  apply Array.toList_inj.1
  simp [bStr, Array.toList_extract, List.extract]

theorem trimRight_cv (cs l : List UInt8) (hl : l.length ≤ 1000000) : CV Tryd.prog 48 [.str (bStr l), .vp (setA cs)] (· = .str (bStr (l.take (trR cs l l.length)))) := by
  refine CV_intro tyOk Tryd.func48 (by kernel_rfl) rfl 22 rfl (by simp) [.tmp 4] rfl ?_
  intro w0 ok0
  repeat' (first | refine T_seq ?_ | refine N_then ?_ | refine T_regX tyOk ?_ | refine S_nil ?_ | refine T_block ?_ | apply S_assign | exact gt_any rfl | exact rfl | fail)
  generalize hK : trR cs l l.length = K
  refine T_roundsS (α := Nat) (fun k => ⟨[(0, .str (bStr (l.take k))), (1, .vp (setA cs))], [], 0⟩) (fun k => k) (fun k => k ≤ l.length ∧ trR cs l k = K) l.length ?_ ⟨Nat.le_refl _, hK⟩ ?_
  · rw [List.take_length]
    exact ((weak_of (by repeat' (first | exact keepE_nil | refine keepE_cons rfl ?_)) (by repeat' (first | exact keepB_nil | refine keepB_cons (by first | rfl | exact congrArg (fun l => some (Box.mk l _ _ _)) hset) ?_)) (Nat.le_refl _))).sub
  clear hK
  rintro k ⟨hk, hK⟩
  have hkl : (l.take k).length = k := by rw [List.length_take]; omega
  match k, hk, hK, hkl with
  | 0, hk, hK, hkl =>
    have d0 : decide ((0 : Int) < ((bStr (l.take 0)).size : Int)) = false := rfl
    obtain rfl : 0 = K := hK
    repeat' (first | refine T_seq ?_ | refine N_then ?_ | refine N_thenE ?_ | refine N_blockE ?_ | refine N_againSE ?_ | refine T_regX tyOk ?_ | refine S_nil ?_ | refine T_ret ?_ | refine T_exit ?_ | (apply E_tmp; (· exact rfl); (· (repeat' (first | exact pure_int _ _ | exact pure_bool _ | exact pure_str _); done))) | (apply T_ifF; (· exact rfl); (· (first | assumption | exact rfl))) | apply S_move | apply S_assign | apply S_gtr | (apply S_len_str; (· exact rfl); (· exact gt_any rfl)) | exact gt_any rfl | exact rfl | fail)
  | k + 1, hk, hK, hkl =>
    have d0 : decide ((0 : Int) < ((bStr (l.take (k + 1))).size : Int)) = true := by rw [bStr_size, hkl]; exact decide_eq_true (by omega)
    have w0 : IntKind.wrap .i64 (((bStr (l.take (k + 1))).size : Int) - 1) = (k : Int) := by rw [bStr_size, hkl, wrap_i64 (by omega) (by omega)]; omega
    have hin : (0 : Int) ≤ (k : Int) ∧ (k : Int) < ((bStr (l.take (k + 1))).size : Int) := by rw [bStr_size, hkl]; omega
    have hg : (((bStr (l.take (k + 1))).data.toList.getD ((k : Int)).toNat 0).toNat : Int) = ((l.getD k 0).toNat : Int) := by
      rw [bStr_list, Int.toNat_natCast, getD_take l 0 (by omega)]
    have c0 := asciiHas_cv cs (l.getD k 0)
    have hle : k ≤ (bStr (l.take (k + 1))).size := by rw [bStr_size, hkl]; omega
    have hex : (bStr (l.take (k + 1))).extract 0 k = bStr (l.take k) := by rw [bStr_extract, List.drop_zero, Nat.sub_zero, List.take_take, Nat.min_eq_left (by omega)]
    rw [trR] at hK
    by_cases e : inSet cs (l.getD k 0).toNat = true
    · rw [if_pos e] at hK
      rw [e] at c0
      have d1 : (!true) = false := rfl
      generalize (l.getD k 0) = c at *
      repeat' (first | refine T_seq ?_ | refine N_then ?_ | refine N_block ?_ | refine T_regX tyOk ?_ | refine S_nil ?_ | refine T_skip ?_ | refine T_block ?_ | (apply T_ifT; (· exact rfl); (· (first | assumption | exact rfl))) | (apply T_ifF; (· exact rfl); (· (first | assumption | exact rfl))) | apply S_move | apply S_assign | apply S_gtr | apply S_sub | apply S_not | (apply S_len_str; (· exact rfl); (· exact gt_any rfl)) | (apply S_idxStr; (· exact rfl); (· exact gt_any rfl); (· exact gt_any rfl)) | (apply S_slStr; (· exact rfl); (· exact gt_any rfl)) | apply S_callQ (f := 58) | apply c0 | exact viewL_nil | apply viewL_cons | (apply View.pure; exact PureC.out) | exact FlatC.out | (apply mnat; first | exact Int.toNat_natCast _ | exact rfl) | exact Bd.no _ | (apply bd_at; (· exact gt_any rfl)) | exact gt_any rfl | exact gts_nil | (apply gts_cons; (· exact gt_any rfl)) | assumption | exact Nat.le_of_ble_eq_true rfl | omega | exact rfl | fail)
      exact N_againS k ((weak_of (by repeat' (first | exact keepE_nil | refine keepE_cons rfl ?_)) (by repeat' (first | exact keepB_nil | refine keepB_cons (by first | rfl | exact congrArg (fun l => some (Box.mk l _ _ _)) hset) ?_)) (Nat.le_refl _))).sub ⟨by omega, hK⟩ (by omega)
    · rw [if_neg e] at hK
      have e' : inSet cs (l.getD k 0).toNat = false := by simpa using e
      rw [e'] at c0
      have d1 : (!false) = true := rfl
      obtain rfl : k + 1 = K := hK
      generalize (l.getD k 0) = c at *
      repeat' (first | refine T_seq ?_ | refine N_then ?_ | refine N_thenE ?_ | refine N_blockE ?_ | refine N_blockX rfl ?_ | refine N_againSE ?_ | refine T_regX tyOk ?_ | refine S_nil ?_ | refine T_skip ?_ | refine T_ret ?_ | refine T_exit ?_ | refine T_block ?_ | (apply E_tmp; (· exact rfl); (· (repeat' (first | exact pure_int _ _ | exact pure_bool _ | exact pure_str _); done))) | (apply T_ifT; (· exact rfl); (· (first | assumption | exact rfl))) | apply S_move | apply S_assign | apply S_gtr | apply S_sub | apply S_not | (apply S_len_str; (· exact rfl); (· exact gt_any rfl)) | (apply S_idxStr; (· exact rfl); (· exact gt_any rfl); (· exact gt_any rfl)) | apply S_callQ (f := 58) | apply c0 | exact viewL_nil | apply viewL_cons | (apply View.pure; exact PureC.out) | exact FlatC.out | exact gt_any rfl | exact gts_nil | (apply gts_cons; (· exact gt_any rfl)) | assumption | exact rfl | fail)

theorem trimLeft_cv (cs l : List UInt8) (hl : l.length ≤ 1000000) : CV Tryd.prog 47 [.str (bStr l), .vp (setA cs)] (· = .str (bStr (trL cs l))) := by
  refine CV_intro tyOk Tryd.func47 (by kernel_rfl) rfl 16 rfl (by simp) [.tmp 4] rfl ?_
  intro w0 ok0
  repeat' (first | refine T_seq ?_ | refine N_then ?_ | refine T_regX tyOk ?_ | refine S_nil ?_ | refine T_block ?_ | apply S_assign | exact gt_any rfl | exact rfl | fail)
  generalize hK : trL cs l = K
  refine T_roundsS (α := List UInt8) (fun m => ⟨[(0, .str (bStr m)), (1, .vp (setA cs))], [], 0⟩) (fun m => m.length) (fun m => m.length ≤ 1000000 ∧ trL cs m = K) l ((weak_of (by repeat' (first | exact keepE_nil | refine keepE_cons rfl ?_)) (by repeat' (first | exact keepB_nil | refine keepB_cons (by first | rfl | exact congrArg (fun l => some (Box.mk l _ _ _)) hset) ?_)) (Nat.le_refl _))).sub ⟨hl, hK⟩ ?_
  clear hK
  rintro m ⟨hm, hK⟩
  match m, hm, hK with
  | [], hm, hK =>
    have d0 : decide ((0 : Int) < ((bStr []).size : Int)) = false := rfl
    obtain rfl : [] = K := hK
    repeat' (first | refine T_seq ?_ | refine N_then ?_ | refine N_thenE ?_ | refine N_blockE ?_ | refine N_againSE ?_ | refine T_regX tyOk ?_ | refine S_nil ?_ | refine T_ret ?_ | refine T_exit ?_ | (apply E_tmp; (· exact rfl); (· (repeat' (first | exact pure_int _ _ | exact pure_bool _ | exact pure_str _); done))) | (apply T_ifF; (· exact rfl); (· (first | assumption | exact rfl))) | apply S_move | apply S_assign | apply S_gtr | (apply S_len_str; (· exact rfl); (· exact gt_any rfl)) | exact gt_any rfl | exact rfl | fail)
  | c :: m, hm, hK =>
    have hsz : (bStr (c :: m)).size = m.length + 1 := rfl
    rw [List.length_cons] at hm
    have d0 : decide ((0 : Int) < ((bStr (c :: m)).size : Int)) = true := by rw [hsz]; exact decide_eq_true (by omega)
    have hin : (0 : Int) ≤ (0 : Int) ∧ (0 : Int) < ((bStr (c :: m)).size : Int) := by rw [hsz]; omega
    have hg : (((bStr (c :: m)).data.toList.getD ((0 : Int)).toNat 0).toNat : Int) = (c.toNat : Int) := rfl
    have c0 := asciiHas_cv cs c
    have hle : 1 ≤ (bStr (c :: m)).size := by rw [hsz]; omega
    have hex : (bStr (c :: m)).extract 1 (bStr (c :: m)).size = bStr m := by rw [bStr_extract, hsz, List.drop_succ_cons, List.drop_zero, List.take_of_length_le (by omega)]
    rw [trL] at hK
    by_cases e : inSet cs c.toNat = true
    · rw [if_pos e] at hK
      rw [e] at c0
      have d1 : (!true) = false := rfl
      repeat' (first | refine T_seq ?_ | refine N_then ?_ | refine N_block ?_ | refine T_regX tyOk ?_ | refine S_nil ?_ | refine T_skip ?_ | refine T_block ?_ | (apply T_ifT; (· exact rfl); (· (first | assumption | exact rfl))) | (apply T_ifF; (· exact rfl); (· (first | assumption | exact rfl))) | apply S_move | apply S_assign | apply S_gtr | apply S_not | (apply S_len_str; (· exact rfl); (· exact gt_any rfl)) | (apply S_idxStr; (· exact rfl); (· exact gt_any rfl); (· exact gt_any rfl)) | (apply S_slStr; (· exact rfl); (· exact gt_any rfl)) | apply S_callQ (f := 58) | apply c0 | exact viewL_nil | apply viewL_cons | (apply View.pure; exact PureC.out) | exact FlatC.out | (apply mnat; first | exact Int.toNat_natCast _ | exact rfl) | exact Bd.no _ | (apply bd_at; (· exact gt_any rfl)) | exact gt_any rfl | exact gts_nil | (apply gts_cons; (· exact gt_any rfl)) | assumption | omega | exact rfl | fail)
      exact N_againS m ((weak_of (by repeat' (first | exact keepE_nil | refine keepE_cons rfl ?_)) (by repeat' (first | exact keepB_nil | refine keepB_cons (by first | rfl | exact congrArg (fun l => some (Box.mk l _ _ _)) hset) ?_)) (Nat.le_refl _))).sub ⟨by omega, hK⟩ (by simp)
    · rw [if_neg e] at hK
      have e' : inSet cs c.toNat = false := by simpa using e
      rw [e'] at c0
      have d1 : (!false) = true := rfl
      obtain rfl : c :: m = K := hK
      repeat' (first | refine T_seq ?_ | refine N_then ?_ | refine N_thenE ?_ | refine N_blockE ?_ | refine N_blockX rfl ?_ | refine N_againSE ?_ | refine T_regX tyOk ?_ | refine S_nil ?_ | refine T_skip ?_ | refine T_ret ?_ | refine T_exit ?_ | refine T_block ?_ | (apply E_tmp; (· exact rfl); (· (repeat' (first | exact pure_int _ _ | exact pure_bool _ | exact pure_str _); done))) | (apply T_ifT; (· exact rfl); (· (first | assumption | exact rfl))) | apply S_move | apply S_assign | apply S_gtr | apply S_not | (apply S_len_str; (· exact rfl); (· exact gt_any rfl)) | (apply S_idxStr; (· exact rfl); (· exact gt_any rfl); (· exact gt_any rfl)) | apply S_callQ (f := 58) | apply c0 | exact viewL_nil | apply viewL_cons | (apply View.pure; exact PureC.out) | exact FlatC.out | exact gt_any rfl | exact gts_nil | (apply gts_cons; (· exact gt_any rfl)) | assumption | exact rfl | fail)

end Go.Proofs.YtmaginepopldnaaDoor
