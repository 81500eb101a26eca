import Derived.Test.YtpejdgkaapnekaaGreatP7
set_option linter.unusedVariables false
set_option linter.unusedSimpArgs false
namespace Go.Proofs.YtpejdgkaapnekaaGreat
open Go Go.Abs
attribute [local irreducible] OkOps OkC DRun thenQ blockQ RetQ
set_option maxRecDepth 10000
theorem c133r (ds : List Dim) (xs : List Int) (hv : (volF ds).2 = 0) (hl : xs.length = ds.length) (h : ofF ds xs = true) : CallA Tryz.prog 133 [.one (.d (encDims ds)), .one (.d (encInts xs))] [] (.tup [(false, [.d (.int .i64 (rowGo 0 ds xs))]), (false, [.d (.int .i64 0)])]) [] := by
  have h1 := c133 ds xs
  rw [indexF_in hv (by omega) h] at h1
  exact h1
theorem c134r (ds : List Dim) (k : Int) (hv : (volF ds).2 = 0) (h : ¬ (k < 0 ∨ (volF ds).1 ≤ k)) : CallA Tryz.prog 134 [.one (.d (encDims ds)), .one (.d (.int .i64 k))] [] (.tup [(false, [.d (encInts (unG ds k).1)]), (false, [.d (.int .i64 0)])]) [] := by
  have h1 := c134 ds k
  rw [coord_in hv h] at h1
  exact h1
theorem cell_of {a : Arr} (hA : OkA a.dims a.attrs a.cells) {i : Nat} (hi : i < a.cells.length) : (at_ a.cells i).at'.length = a.dims.length ∧ ofF a.dims (at_ a.cells i).at' = true := by
  obtain ⟨h1, h2, h3, h4⟩ := cellF_ok.1 (hA.cel _ (at_mem hi))
  exact ⟨h1, by simp [ofF, h1, h3]⟩
theorem row_in {a : Arr} {es : List Dim} (hR : Resh a es) (hv : (volF a.dims).2 = 0) (he : (volF es).2 = 0) {i : Nat} (hi : i < a.cells.length) : ¬ (rowGo 0 a.dims (at_ a.cells i).at' < 0 ∨ (volF es).1 ≤ rowGo 0 a.dims (at_ a.cells i).at') := by
  obtain ⟨h1, h2⟩ := hR.cell (at_mem hi)
  obtain ⟨b1, b2⟩ := row_bound (n := 0) h1 h2 (by omega)
  have := (vok_of he).vol
  have := hR.same
  omega
theorem reshF_bad {a : Arr} {es : List Dim} (h : chkA a ≠ 0) : reshF a es = (none, 2) := by unfold reshF; rw [if_pos h]
theorem reshF_sch {a : Arr} {es : List Dim} (h : chkA a = 0) (h2 : schemaF es a.attrs ≠ 0) : reshF a es = (none, schemaF es a.attrs) := by unfold reshF; rw [if_neg (by simp [h]), if_pos h2]
theorem reshF_v1 {a : Arr} {es : List Dim} (h : chkA a = 0) (h2 : schemaF es a.attrs = 0) (h3 : (volF a.dims).2 ≠ 0) : reshF a es = (none, (volF a.dims).2) := by unfold reshF; rw [if_neg (by simp [h]), if_neg (by simp [h2]), if_pos h3]
theorem reshF_v2 {a : Arr} {es : List Dim} (h : chkA a = 0) (h2 : schemaF es a.attrs = 0) (h3 : (volF a.dims).2 = 0) (h4 : (volF es).2 ≠ 0) : reshF a es = (none, (volF es).2) := by unfold reshF; rw [if_neg (by simp [h]), if_neg (by simp [h2]), if_neg (by simp [h3]), if_pos h4]
theorem reshF_ne {a : Arr} {es : List Dim} (h : chkA a = 0) (h2 : schemaF es a.attrs = 0) (h3 : (volF a.dims).2 = 0) (h4 : (volF es).2 = 0) (h5 : (volF a.dims).1 ≠ (volF es).1) : reshF a es = (none, 13) := by unfold reshF; rw [if_neg (by simp [h]), if_neg (by simp [h2]), if_neg (by simp [h3]), if_neg (by simp [h4]), if_pos h5]
theorem reshF_yes {a : Arr} {es : List Dim} (h : chkA a = 0) (h2 : schemaF es a.attrs = 0) (h3 : (volF a.dims).2 = 0) (h4 : (volF es).2 = 0) (h5 : (volF a.dims).1 = (volF es).1) : Resh a es ∧ reshF a es = (some (reshA a es), 0) := by
  rcases reshF_cases a es h with ⟨e, he, h6⟩ | ⟨hR, _, _, _, h6⟩
  · unfold reshF at h6
    rw [if_neg (by simp [h]), if_neg (by simp [h2]), if_neg (by simp [h3]), if_neg (by simp [h4]), if_neg (by simp [h5])] at h6
    unfold resF at h6
    rw [if_neg (by rw [List.length_map]; have := (okA h).few; omega)] at h6
    simp at h6
  · exact ⟨hR, h6⟩
theorem resh_split (a : Arr) (es : List Dim) :
    ((!validF [a]) = true ∧ (checkF a.dims a.attrs a.cells != 0) = true ∧ reshF a es = (none, 2)) ∨
    ((!validF [a]) = false ∧ (checkF a.dims a.attrs a.cells != 0) = false ∧ (schemaF es a.attrs != 0) = true ∧ reshF a es = (none, schemaF es a.attrs)) ∨
    ((!validF [a]) = false ∧ (checkF a.dims a.attrs a.cells != 0) = false ∧ (schemaF es a.attrs != 0) = false ∧ ((volF a.dims).2 != 0) = true ∧ reshF a es = (none, (volF a.dims).2)) ∨
    ((!validF [a]) = false ∧ (checkF a.dims a.attrs a.cells != 0) = false ∧ (schemaF es a.attrs != 0) = false ∧ ((volF a.dims).2 != 0) = false ∧ ((volF es).2 != 0) = true ∧ reshF a es = (none, (volF es).2)) ∨
    ((!validF [a]) = false ∧ (checkF a.dims a.attrs a.cells != 0) = false ∧ (schemaF es a.attrs != 0) = false ∧ ((volF a.dims).2 != 0) = false ∧ ((volF es).2 != 0) = false ∧ ((volF a.dims).1 != (volF es).1) = true ∧ reshF a es = (none, 13)) ∨
    ((!validF [a]) = false ∧ (checkF a.dims a.attrs a.cells != 0) = false ∧ (schemaF es a.attrs != 0) = false ∧ ((volF a.dims).2 != 0) = false ∧ ((volF es).2 != 0) = false ∧ ((volF a.dims).1 != (volF es).1) = false ∧ (volF a.dims).2 = 0 ∧ (volF es).2 = 0 ∧ Resh a es ∧ reshF a es = (some (reshA a es), 0)) := by
  by_cases hc : chkA a = 0
  rotate_left
  · exact .inl ⟨by simp [validF, hc], by unfold chkA at hc; simp [hc], reshF_bad hc⟩
  have hv : (!validF [a]) = false := by simp [validF, hc]
  have hw : (checkF a.dims a.attrs a.cells != 0) = false := by unfold chkA at hc; simp [hc]
  by_cases h2 : schemaF es a.attrs = 0
  rotate_left
  · exact .inr (.inl ⟨hv, hw, by simp [h2], reshF_sch hc h2⟩)
  by_cases h3 : (volF a.dims).2 = 0
  rotate_left
  · exact .inr (.inr (.inl ⟨hv, hw, by simp [h2], by simp [h3], reshF_v1 hc h2 h3⟩))
  by_cases h4 : (volF es).2 = 0
  rotate_left
  · exact .inr (.inr (.inr (.inl ⟨hv, hw, by simp [h2], by simp [h3], by simp [h4], reshF_v2 hc h2 h3 h4⟩)))
  by_cases h5 : (volF a.dims).1 = (volF es).1
  rotate_left
  · exact .inr (.inr (.inr (.inr (.inl ⟨hv, hw, by simp [h2], by simp [h3], by simp [h4], by simp [h5], reshF_ne hc h2 h3 h4 h5⟩))))
  obtain ⟨hR, e⟩ := reshF_yes hc h2 h3 h4 h5
  exact .inr (.inr (.inr (.inr (.inr ⟨hv, hw, by simp [h2], by simp [h3], by simp [h4], by simp [h5], h3, h4, hR, e⟩))))
theorem c40 (a : Arr) (es : List Dim) : CallA Tryz.prog 40 [aggA a, .one (.d (encDims es))] [] (arrE (reshF a es)) [] := by
  unfold aggA
  refine enter tabOk Tryz.func40 rfl (by decide +kernel) rfl fun hok w0 σ0 φ0 M => ?_
  clear hok
  rcases resh_split a es with ⟨hv, hw, e⟩ | ⟨hv, hw, hb2, e⟩ | ⟨hv, hw, hb2, hb3, e⟩ | ⟨hv, hw, hb2, hb3, hb4, e⟩ | ⟨hv, hw, hb2, hb3, hb4, hb5, e⟩ | ⟨hv, hw, hb2, hb3, hb4, hb5, h3, h4, hR, e⟩
  all_goals rw [e]
  rotate_right
  have hcn := hR.oka.few
  repeat' (first | (show OkOps _ _ _ _ _ _; first | (show OkOps _ _ _ (Oper.mk _ (Op.call _) _ _ _ (_) :: _) _ _; first | refine s_callFS [2] rfl rfl rfl rfl rfl rfl rfl rfl rfl (c96 [a]) rfl ?_ | fail) | (show OkOps _ _ _ (Oper.mk _ (Op.call _) _ _ _ (_) :: _) _ _; first | refine s_callG 16 [10] rfl rfl rfl rfl rfl rfl rfl rfl rfl (c99k es a.attrs (a.cells.map (reshC a.dims es)) _ _ (resh_diff hR) (by rw [List.length_map]; omega) rfl (by rw [hr, List.take_of_length_le (by simp; omega), List.take_of_length_le (by first | omega | ((try simp only [decide_eq_true_eq, decide_eq_false_iff_not, Bool.not_eq_true', Bool.not_true, Bool.not_false, List.length_map, List.length_set, bne_iff_ne, ne_eq, beq_iff_eq, bne_eq_false_iff_eq, beq_eq_false_iff_ne] at *); omega)), List.map_map]; rfl)) rfl rfl rfl ?_ | fail) | refine okops_nil ?_ | (show OkOps _ _ _ (Oper.mk _ (Op.call _) _ _ _ (_) :: _) _ _; first | refine s_append tabOk rfl rfl rfl rfl rfl rfl rfl rfl rfl rfl rfl rfl rfl (by first | omega | ((try simp only [decide_eq_true_eq, decide_eq_false_iff_not, List.length_map, List.length_cons, List.length_nil, List.length_append, List.length_take, List.length_drop, Int.toNat_natCast] at *); omega)) (by first | exact Nat.le_of_ble_eq_true rfl | omega | ((try simp only [decide_eq_true_eq, decide_eq_false_iff_not, List.length_map, List.length_cons, List.length_nil, List.length_append, List.length_take, List.length_drop, Int.toNat_natCast] at *); omega)) (Nat.le_of_ble_eq_true rfl) ?_ | fail) | refine s_plain tabOk rfl rfl rfl rfl rfl ?_ | (show OkOps _ _ _ (Oper.mk _ (Op.binOp .add _ _ _ _) _ _ _ (_) :: _) _ _; first | refine s_e envOk rfl rfl rfl (step3_add rfl rfl rfl rfl (wrap64 (by omega) (by omega))) ?_ | fail) | (show OkOps _ _ _ (Oper.mk _ (Op.indexAddr _ _ _) _ _ _ (_) :: _) _ _; first | refine s_e envOk rfl rfl rfl (step3_idx rfl rfl rfl rfl rfl (by first | omega | ((try simp only [decide_eq_true_eq, decide_eq_false_iff_not, Bool.not_eq_true', Bool.not_true, Bool.not_false, List.length_map, List.length_set, bne_iff_ne, ne_eq, beq_iff_eq, bne_eq_false_iff_eq, beq_eq_false_iff_ne] at *); omega)) (at_map (by first | omega | ((try simp only [decide_eq_true_eq, decide_eq_false_iff_not, Bool.not_eq_true', Bool.not_true, Bool.not_false, List.length_map, List.length_set, bne_iff_ne, ne_eq, beq_iff_eq, bne_eq_false_iff_eq, beq_eq_false_iff_ne] at *); omega)))) ?_ | fail) | (show OkOps _ _ _ (Oper.mk _ (Op.call _) _ _ _ (_) :: _) _ _; first | refine s_callF rfl rfl rfl rfl rfl rfl rfl rfl (c108 _ _) rfl ?_ | refine s_callF rfl rfl rfl rfl rfl rfl rfl rfl (c132 _) rfl ?_ | refine s_callF rfl rfl rfl rfl rfl rfl rfl rfl (c133r a.dims _ h3 (cell_of hR.oka (by first | omega | ((try simp only [decide_eq_true_eq, decide_eq_false_iff_not, Bool.not_eq_true', Bool.not_true, Bool.not_false, List.length_map, List.length_set, bne_iff_ne, ne_eq, beq_iff_eq, bne_eq_false_iff_eq, beq_eq_false_iff_ne] at *); omega))).1 (cell_of hR.oka (by first | omega | ((try simp only [decide_eq_true_eq, decide_eq_false_iff_not, Bool.not_eq_true', Bool.not_true, Bool.not_false, List.length_map, List.length_set, bne_iff_ne, ne_eq, beq_iff_eq, bne_eq_false_iff_eq, beq_eq_false_iff_ne] at *); omega))).2) rfl ?_ | refine s_callD 16 rfl rfl rfl rfl rfl rfl rfl rfl (c134r es _ h4 (row_in hR h3 h4 (by first | omega | ((try simp only [decide_eq_true_eq, decide_eq_false_iff_not, Bool.not_eq_true', Bool.not_true, Bool.not_false, List.length_map, List.length_set, bne_iff_ne, ne_eq, beq_iff_eq, bne_eq_false_iff_eq, beq_eq_false_iff_ne] at *); omega)))) rfl rfl rfl ?_ | fail) | (show OkOps _ _ _ (Oper.mk _ (Op.box _ _) _ _ _ (_) :: _) _ _; first | refine s_box 0 rfl rfl rfl rfl rfl rfl ?_ | fail) | (show OkOps _ _ _ (Oper.mk _ (Op.alloc _) _ _ _ (_) :: _) _ _; first | refine s_alloc tabOk 1 rfl rfl rfl rfl rfl ?_ | refine s_alloc tabOk 2 rfl rfl rfl rfl rfl ?_ | fail) | refine s_store envOk rfl rfl rfl ?_ | refine s_new envOk 2 rfl rfl rfl rfl rfl rfl ?_ | refine s_new envOk 3 rfl rfl rfl rfl rfl rfl ?_ | fail) | (show OkC _ _ _ _ _; first | refine ok_seq ?_ | refine ok_region ?_ | refine ok_block ?_ | refine ok_skip ?_ | refine ok_ret ?_ | refine ok_exit ?_ | refine ok_condKT rfl (by assumption) ?_ | refine ok_condKF rfl (by assumption) ?_ | refine ok_cond rfl (fun h => ?_) (fun h => ?_) | refine s_loopN 16 rfl (imp_adopt (s := 10) (id := 10) (k := 2) (b := 48) rfl rfl rfl rfl) [(1, _), (2, _), (4, _), (56, _), (57, _)] (subL_cons rfl (subL_cons rfl (subL_cons rfl (subL_cons rfl (subL_cons rfl subL_nil))))) (fun (bN : Bool × Bool) (p : Nat × List (List D)) => [(10, .one (.own 10 p.1)), (58, .one (.d (.int .i64 (p.1 : Int))))]) (fun (bN : Bool × Bool) (p : Nat × List (List D)) => [(10, .row 2 48 p.2), (0, .box [.d (encDims a.dims), .d (encAttrs a.attrs), .d (encCells a.cells)]), (1, .box [.d .nil, .d .nil, .d .nil])]) (fun (p : Nat × List (List D)) => p.1 ≤ a.cells.length ∧ p.2 = (a.cells.take p.1).map (fun c => encCell (reshC a.dims es c))) (fun (p : Nat × List (List D)) => a.cells.length - p.1) (0, []) (subL_cons rfl (subL_cons rfl subL_nil)) (by first | exact subL_nil | exact (subL_cons rfl subL_nil) | exact (subL_cons rfl (subL_cons rfl subL_nil)) | exact (subL_cons rfl (subL_cons rfl (subL_cons rfl subL_nil))) | exact (subL_cons rfl (subL_cons rfl (subL_cons rfl (subL_cons rfl subL_nil)))) | exact (subL_cons rfl (subL_cons rfl (subL_cons rfl (subL_cons rfl (subL_cons rfl subL_nil))))) | exact (subL_cons rfl (subL_cons rfl (subL_cons rfl (subL_cons rfl (subL_cons rfl (subL_cons rfl subL_nil)))))) | exact (subL_cons rfl (subL_cons rfl (subL_cons rfl (subL_cons rfl (subL_cons rfl (subL_cons rfl (subL_cons rfl subL_nil))))))) | exact (subL_cons rfl (subL_cons rfl (subL_cons rfl (subL_cons rfl (subL_cons rfl (subL_cons rfl (subL_cons rfl (subL_cons rfl subL_nil))))))))) (fun b y => by obtain ⟨b1, b2⟩ := b; cases b1 <;> cases b2 <;> first | exact Imp.refl _ | exact imp_ren qN (by kernel_rfl)) ?_ (fun p ⟨hk, hr⟩ => ?_) | fail) | (show thenQ _ _ _ _; first | refine then_n ?_ | refine then_r ?_ | refine then_x ?_ | fail) | (show blockQ _ _ _ _; first | refine block_n ?_ | refine block_r ?_ | refine block_x rfl ?_ | fail) | (show RetQ _ _ _ _ _ _; first | refine ret_leaf (.inl rfl) rfl rfl ?_ | fail) | (show Exists _; first | refine Exists.intro ((p.1 + 1, p.2.take p.1 ++ [encCell (reshC a.dims es (at_ a.cells p.1))])) (Exists.intro (false, false) ⟨?_, ?_, (by first | exact subL_nil | exact (subL_cons rfl subL_nil) | exact (subL_cons rfl (subL_cons rfl subL_nil)) | exact (subL_cons rfl (subL_cons rfl (subL_cons rfl subL_nil))) | exact (subL_cons rfl (subL_cons rfl (subL_cons rfl (subL_cons rfl subL_nil)))) | exact (subL_cons rfl (subL_cons rfl (subL_cons rfl (subL_cons rfl (subL_cons rfl subL_nil))))) | exact (subL_cons rfl (subL_cons rfl (subL_cons rfl (subL_cons rfl (subL_cons rfl (subL_cons rfl subL_nil)))))) | exact (subL_cons rfl (subL_cons rfl (subL_cons rfl (subL_cons rfl (subL_cons rfl (subL_cons rfl (subL_cons rfl subL_nil))))))) | exact (subL_cons rfl (subL_cons rfl (subL_cons rfl (subL_cons rfl (subL_cons rfl (subL_cons rfl (subL_cons rfl (subL_cons rfl subL_nil))))))))), (subL_cons rfl (subL_cons rfl subL_nil)), (subL_cons rfl (subL_cons rfl (subL_cons rfl (subL_cons rfl (subL_cons rfl subL_nil)))))⟩) | fail) | fail)
  all_goals first
    | rfl
    | exact ⟨Nat.zero_le _, rfl⟩
    | (have hlt : p.1 < a.cells.length := by simpa using h
       exact ⟨hlt, row_app (fun c => encCell (reshC a.dims es c)) a.cells hr hlt⟩)
    | (have hlt : p.1 < a.cells.length := by simpa using h
       show a.cells.length - (p.1 + 1) < a.cells.length - p.1
       omega)
    | trace_state
end Go.Proofs.YtpejdgkaapnekaaGreat
namespace Go.Proofs.YtpejdgkaapnekaaGreat
open Go Go.Abs
attribute [local irreducible] OkOps OkC DRun thenQ blockQ RetQ
set_option maxRecDepth 10000
theorem c138n (ds : List Dim) (names : List (List UInt8)) (hn : names.length ≤ 1048576) (h : selGo ds [] names = none) : CallA Tryz.prog 138 [.one (.d (encDims ds)), .one (.d (encNames names)), .one (.d (.fn 139 []))] [] (.tup [(false, [.d .nil]), (false, [.d (.bool false)])]) [] := by
  have h1 := c138 ds names hn
  rw [h] at h1; exact h1
theorem c138s (ds : List Dim) (names : List (List UInt8)) (hn : names.length ≤ 1048576) (ks : List Int) (h : selGo ds [] names = some ks) : CallA Tryz.prog 138 [.one (.d (encDims ds)), .one (.d (encNames names)), .one (.d (.fn 139 []))] [] (.tup [(false, [.d (encInts ks)]), (false, [.d (.bool true)])]) [] := by
  have h1 := c138 ds names hn
  rw [h] at h1; exact h1
theorem trans_split (a : Arr) (names : List (List UInt8)) :
    ((!validF [a]) = true ∧ (checkF a.dims a.attrs a.cells != 0) = true ∧ transF a names = (none, 2)) ∨
    ((!validF [a]) = false ∧ (checkF a.dims a.attrs a.cells != 0) = false ∧ (((names.map encName).length : Int) != ((a.dims.map encDim).length : Int)) = true ∧ transF a names = (none, 13)) ∨
    ((!validF [a]) = false ∧ (checkF a.dims a.attrs a.cells != 0) = false ∧ (((names.map encName).length : Int) != ((a.dims.map encDim).length : Int)) = false ∧ selGo a.dims [] names = none ∧ names.length = a.dims.length ∧ transF a names = (none, 11)) ∨
    ((!validF [a]) = false ∧ (checkF a.dims a.attrs a.cells != 0) = false ∧ (((names.map encName).length : Int) != ((a.dims.map encDim).length : Int)) = false ∧ selGo a.dims [] names = some (ixs a.dims names) ∧ Tran a names ∧ transF a names = (some (tranA a names), 0)) := by
  by_cases hc : chkA a = 0
  rotate_left
  · exact .inl ⟨by simp [validF, hc], by unfold chkA at hc; simp [hc], by unfold transF; rw [if_pos hc]⟩
  have hv : (!validF [a]) = false := by simp [validF, hc]
  have hw : (checkF a.dims a.attrs a.cells != 0) = false := by unfold chkA at hc; simp [hc]
  by_cases h2 : names.length = a.dims.length
  rotate_left
  · exact .inr (.inl ⟨hv, hw, by simp; omega, by unfold transF; rw [if_neg (by simp [hc]), if_pos (by omega)]⟩)
  have hb : (((names.map encName).length : Int) != ((a.dims.map encDim).length : Int)) = false := by simp; omega
  rcases transF_cases a names hc with ⟨e, he, h3⟩ | ⟨hT, h3⟩
  · cases hs : selGo a.dims [] names with
    | none => exact .inr (.inr (.inl ⟨hv, hw, hb, rfl, h2, by unfold transF; rw [if_neg (by simp [hc]), if_neg (by omega), hs]⟩))
    | some ks =>
      unfold transF at h3
      rw [if_neg (by simp [hc]), if_neg (by omega), hs] at h3
      simp only [resF] at h3
      rw [if_neg (by rw [List.length_map]; have := (okA hc).few; omega)] at h3
      simp at h3
  · exact .inr (.inr (.inr ⟨hv, hw, hb, by have := sel_mk (acc := []) hT.all (by simpa using hT.nd); simpa [ixs] using this, hT, h3⟩))
section
variable {a : Arr} {names : List (List UInt8)}
theorem Tran.rng (h : Tran a names) : ∀ i, i < (ixs a.dims names).length → 0 ≤ at_ (ixs a.dims names) i ∧ (at_ (ixs a.dims names) i).toNat < a.dims.length := fun i hi => by
  rw [ix_len] at hi
  obtain ⟨k, h1, h2, _⟩ := h.ix hi
  rw [h1]; exact ⟨by omega, by simpa using h2⟩
theorem Tran.rngc (h : Tran a names) {j : Nat} (hj : j < a.cells.length) : ∀ i, i < (ixs a.dims names).length → 0 ≤ at_ (ixs a.dims names) i ∧ (at_ (ixs a.dims names) i).toNat < (at_ a.cells j).at'.length := fun i hi => by
  rw [h.cell (at_mem hj)]; exact h.rng i hi
end
set_option maxHeartbeats 4000000 in
theorem c42 (a : Arr) (names : List (List UInt8)) (hnn : names.length ≤ 1048576) : CallA Tryz.prog 42 [aggA a, .one (.d (encNames names))] [] (arrE (transF a names)) [] := by
  unfold aggA
  refine enter tabOk Tryz.func42 rfl (by decide +kernel) rfl fun hok w0 σ0 φ0 M => ?_
  clear hok
  rcases trans_split a names with ⟨hv, hw, e⟩ | ⟨hv, hw, hb, e⟩ | ⟨hv, hw, hb, hs, hl, e⟩ | ⟨hv, hw, hb, hs, hT, e⟩
  all_goals rw [e]
  rotate_right
  have hcn := hT.oka.few
  have hkn : (ixs a.dims names).length ≤ 1000 := by rw [ix_len, hT.len]; have := hT.oka.dims.2.1; omega
  repeat' (first | (show OkOps _ _ _ _ _ _; first | (show OkOps _ _ _ (Oper.mk _ (Op.call _) _ _ _ (_) :: _) _ _; first | refine s_callFS [2] rfl rfl rfl rfl rfl rfl rfl rfl rfl (c96 [a]) rfl ?_ | fail) | refine okops_nil ?_ | refine s_plain tabOk rfl rfl rfl rfl rfl ?_ | (show OkOps _ _ _ (Oper.mk _ (Op.binOp .add _ _ _ _) _ _ _ (_) :: _) _ _; first | refine s_e envOk rfl rfl rfl (step3_add rfl rfl rfl rfl (wrap64 (by omega) (by omega))) ?_ | fail) | (show OkOps _ _ _ (Oper.mk _ (Op.indexAddr _ _ _) _ _ _ (_) :: _) _ _; first | refine s_e envOk rfl rfl rfl (step3_idx rfl rfl rfl rfl rfl (by first | omega | ((try simp only [decide_eq_true_eq, decide_eq_false_iff_not, Bool.not_eq_true', Bool.not_true, Bool.not_false, List.length_map, List.length_set, bne_iff_ne, ne_eq, beq_iff_eq, bne_eq_false_iff_eq, beq_eq_false_iff_ne] at *); omega)) (at_map (by first | omega | ((try simp only [decide_eq_true_eq, decide_eq_false_iff_not, Bool.not_eq_true', Bool.not_true, Bool.not_false, List.length_map, List.length_set, bne_iff_ne, ne_eq, beq_iff_eq, bne_eq_false_iff_eq, beq_eq_false_iff_ne] at *); omega)))) ?_ | fail) | (show OkOps _ _ _ (Oper.mk _ (Op.call _) _ _ _ (_) :: _) _ _; first | refine s_callF rfl rfl rfl rfl rfl rfl rfl rfl (c138n a.dims names hnn (by assumption)) rfl ?_ | refine s_callD 16 rfl rfl rfl rfl rfl rfl rfl rfl (c138s a.dims names hnn _ (by assumption)) rfl rfl rfl ?_ | fail) | (show OkOps _ _ _ (Oper.mk _ (Op.box _ _) _ _ _ (_) :: _) _ _; first | refine s_box 0 rfl rfl rfl rfl rfl rfl ?_ | fail) | (show OkOps _ _ _ (Oper.mk _ (Op.alloc _) _ _ _ (_) :: _) _ _; first | refine s_alloc tabOk 1 rfl rfl rfl rfl rfl ?_ | refine s_alloc tabOk 2 rfl rfl rfl rfl rfl ?_ | fail) | refine s_store envOk rfl rfl rfl ?_ | refine s_new envOk 2 rfl rfl rfl rfl rfl rfl ?_ | fail) | (show OkC _ _ _ _ _; first | refine ok_seq ?_ | refine ok_region ?_ | refine ok_block ?_ | refine ok_skip ?_ | refine ok_ret ?_ | refine ok_exit ?_ | refine ok_condT rfl ?_ | refine ok_condF rfl ?_ | refine ok_condKT rfl (by assumption) ?_ | refine ok_condKF rfl (by assumption) ?_ | refine ok_cond rfl (fun h => ?_) (fun h => ?_) | refine ok_regionD progOk.mo ?_ | refine s_loopN 10 rfl (imp_adopt (s := 8) (id := 10) (k := 2) (b := 48) rfl rfl rfl rfl) [(2, _), (4, _), (6, _), (36, _), (37, _)] (subL_cons rfl (subL_cons rfl (subL_cons rfl (subL_cons rfl (subL_cons rfl subL_nil))))) (fun (bN : Bool × Bool) (p : Nat × List (List D)) => [(8, .one (.own (nmA bN) p.1)), (38, .one (.d (.int .i64 (p.1 : Int))))]) (fun (bN : Bool × Bool) (p : Nat × List (List D)) => [((nmA bN), .row 2 48 p.2), (0, .box [.d (encDims a.dims), .d (encAttrs a.attrs), .d (encCells a.cells)]), (1, .box [.d .nil, .d .nil, .d .nil])]) (fun (p : Nat × List (List D)) => p.1 ≤ a.cells.length ∧ p.2 = (a.cells.take p.1).map (fun c => encCell (permC (ixs a.dims names) c))) (fun (p : Nat × List (List D)) => a.cells.length - p.1) (0, []) (subL_cons rfl (subL_cons rfl subL_nil)) (by first | exact subL_nil | exact (subL_cons rfl subL_nil) | exact (subL_cons rfl (subL_cons rfl subL_nil)) | exact (subL_cons rfl (subL_cons rfl (subL_cons rfl subL_nil))) | exact (subL_cons rfl (subL_cons rfl (subL_cons rfl (subL_cons rfl subL_nil)))) | exact (subL_cons rfl (subL_cons rfl (subL_cons rfl (subL_cons rfl (subL_cons rfl subL_nil))))) | exact (subL_cons rfl (subL_cons rfl (subL_cons rfl (subL_cons rfl (subL_cons rfl (subL_cons rfl subL_nil)))))) | exact (subL_cons rfl (subL_cons rfl (subL_cons rfl (subL_cons rfl (subL_cons rfl (subL_cons rfl (subL_cons rfl subL_nil))))))) | exact (subL_cons rfl (subL_cons rfl (subL_cons rfl (subL_cons rfl (subL_cons rfl (subL_cons rfl (subL_cons rfl (subL_cons rfl subL_nil))))))))) (fun b y => by obtain ⟨b1, b2⟩ := b; cases b1 <;> cases b2 <;> first | exact Imp.refl _ | exact imp_ren qN (by kernel_rfl)) ?_ (fun p ⟨hk, hr⟩ => ?_) | fail) | (show thenQ _ _ _ _; first | refine then_n ?_ | refine then_r ?_ | refine then_x ?_ | fail) | (show blockQ _ _ _ _; first | refine block_n ?_ | refine block_r ?_ | refine block_x rfl ?_ | fail) | (show RetQ _ _ _ _ _ _; first | refine ret_leaf (.inl rfl) rfl rfl ?_ | fail) | (show DRun _ _ _ _ _ _ _ _; first | (show DRun _ _ _ _ (Oper.mk _ (Op.call _) _ _ _ (_) :: _) _ _ _; first | refine d_callD 16 rfl rfl rfl rfl rfl rfl rfl rfl (c140 (at_ a.cells (p.1 : Int).toNat).at' (ixs a.dims names) hkn (hT.rngc (by first | omega | ((try simp only [decide_eq_true_eq, decide_eq_false_iff_not, Bool.not_eq_true', Bool.not_true, Bool.not_false, List.length_map, List.length_set, bne_iff_ne, ne_eq, beq_iff_eq, bne_eq_false_iff_eq, beq_eq_false_iff_ne] at *); omega)))) rfl rfl ?_ | fail) | (show DRun _ _ _ _ (Oper.mk _ (Op.call _) _ _ _ (_) :: _) _ _ _; first | refine d_callD 16 rfl rfl rfl rfl rfl rfl rfl rfl (c141 a.dims (ixs a.dims names) hkn hT.rng) rfl rfl ?_ | fail) | (show DRun _ _ _ _ (Oper.mk _ (Op.call _) _ _ _ (_) :: _) _ _ _; first | refine d_callG 16 [10] rfl rfl rfl rfl rfl rfl rfl rfl rfl (c99k (pickF a.dims (ixs a.dims names)) a.attrs (a.cells.map (permC (ixs a.dims names))) _ _ (tran_diff hT) (by rw [List.length_map]; omega) rfl (by rw [hr, List.take_of_length_le (by simp; omega), List.take_of_length_le (by first | omega | ((try simp only [decide_eq_true_eq, decide_eq_false_iff_not, Bool.not_eq_true', Bool.not_true, Bool.not_false, List.length_map, List.length_set, bne_iff_ne, ne_eq, beq_iff_eq, bne_eq_false_iff_eq, beq_eq_false_iff_ne] at *); omega)), List.map_map]; rfl)) rfl rfl ?_ | fail) | (show DRun _ _ _ _ (Oper.mk _ (Op.call _) _ _ _ (_) :: _) _ _ _; first | refine d_new envOk 11 rfl rfl rfl (step3_appendB (i := 10) rfl rfl rfl rfl rfl rfl rfl rfl (by first | omega | ((try simp only [decide_eq_true_eq, decide_eq_false_iff_not, List.length_map, List.length_cons, List.length_nil, List.length_append, List.length_take, List.length_drop, Int.toNat_natCast] at *); omega)) (by first | exact Nat.le_of_ble_eq_true rfl | omega | ((try simp only [decide_eq_true_eq, decide_eq_false_iff_not, List.length_map, List.length_cons, List.length_nil, List.length_append, List.length_take, List.length_drop, Int.toNat_natCast] at *); omega)) (Nat.le_of_ble_eq_true rfl)) rfl rfl ?_ | fail) | refine d_nil (by kernel_rfl) ?_ | refine d_e envOk rfl rfl rfl (step3_plain rfl rfl) ?_ | refine d_new envOk 3 rfl rfl rfl rfl rfl rfl ?_ | refine d_store envOk rfl rfl rfl ?_ | fail) | (show Exists _; first | refine Exists.intro ((p.1 + 1, p.2.take p.1 ++ [encCell (permC (ixs a.dims names) (at_ a.cells p.1))])) (Exists.intro (true, false) ⟨?_, ?_, (by first | exact subL_nil | exact (subL_cons rfl subL_nil) | exact (subL_cons rfl (subL_cons rfl subL_nil)) | exact (subL_cons rfl (subL_cons rfl (subL_cons rfl subL_nil))) | exact (subL_cons rfl (subL_cons rfl (subL_cons rfl (subL_cons rfl subL_nil)))) | exact (subL_cons rfl (subL_cons rfl (subL_cons rfl (subL_cons rfl (subL_cons rfl subL_nil))))) | exact (subL_cons rfl (subL_cons rfl (subL_cons rfl (subL_cons rfl (subL_cons rfl (subL_cons rfl subL_nil)))))) | exact (subL_cons rfl (subL_cons rfl (subL_cons rfl (subL_cons rfl (subL_cons rfl (subL_cons rfl (subL_cons rfl subL_nil))))))) | exact (subL_cons rfl (subL_cons rfl (subL_cons rfl (subL_cons rfl (subL_cons rfl (subL_cons rfl (subL_cons rfl (subL_cons rfl subL_nil))))))))), (subL_cons rfl (subL_cons rfl subL_nil)), (subL_cons rfl (subL_cons rfl (subL_cons rfl (subL_cons rfl (subL_cons rfl subL_nil)))))⟩) | fail) | fail)
  all_goals first
    | rfl
    | exact ⟨Nat.zero_le _, rfl⟩
    | (have hlt : p.1 < a.cells.length := by simpa using h
       exact ⟨hlt, row_app (fun c => encCell (permC (ixs a.dims names) c)) a.cells hr hlt⟩)
    | (have hlt : p.1 < a.cells.length := by simpa using h
       show a.cells.length - (p.1 + 1) < a.cells.length - p.1
       omega)
    | trace_state
end Go.Proofs.YtpejdgkaapnekaaGreat
namespace Go.Proofs.YtpejdgkaapnekaaGreat
open Go Go.Abs
attribute [local irreducible] OkOps OkC DRun thenQ blockQ RetQ
set_option maxRecDepth 10000
section
variable {src kept : List (Int × Bool)} {ds : List Dim} {rule : Int} {l l' r : List Cell} {c : Cell}
end
end Go.Proofs.YtpejdgkaapnekaaGreat
