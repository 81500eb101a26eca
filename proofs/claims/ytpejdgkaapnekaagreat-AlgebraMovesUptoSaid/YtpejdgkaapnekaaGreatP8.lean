import Derived.Test.YtpejdgkaapnekaaGreatP7
set_option linter.unusedVariables false
set_option linter.unusedSimpArgs false
namespace Go.Proofs.YtpejdgkaapnekaaGreat
open Go Go.Abs
attribute [local irreducible] OkOps OkC DRun thenQ blockQ RetQ
set_option maxRecDepth 10000
def encName (s : List UInt8) : List D := [.str s]
def encNames (l : List (List UInt8)) : D := .sl 1 16 (l.map encName)
theorem srcA_pos {x : Int} (h : (!decide (0 ≤ x)) = false) : 0 ≤ x := by simpa using h
theorem srcA_lt {a : Arr} {n : List UInt8} (h : (!decide (0 ≤ (srcF a.dims a.attrs n).1)) = false) (h2 : (!(srcF a.dims a.attrs n).2) = true) : (srcF a.dims a.attrs n).1.toNat < a.attrs.length := by
  have h0 := srcA_pos h
  rcases srcF_ok (a := a) (name := n) (by omega) with ⟨k, e, _, _⟩ | ⟨k, e, h3, _⟩
  · rw [e] at h2; simp at h2
  · rw [e]; simpa using h3
theorem srcErr_step {a : Arr} {d : Dim} {r : List Dim} : srcErr a (d :: r) = if (srcF a.dims a.attrs d.name).1 < 0 then 11 else if !(srcF a.dims a.attrs d.name).2 && (at_ a.attrs (srcF a.dims a.attrs d.name).1.toNat).type != 2 then 12 else srcErr a r := rfl
theorem keptErr_step {a : Arr} {n : List UInt8} {r : List (List UInt8)} : keptErr a (n :: r) = if (srcF a.dims a.attrs n).1 < 0 then 11 else keptErr a r := rfl
theorem red_err {a : Arr} {ds : List Dim} {names : List (List UInt8)} {rule e : Int} (hc : chkA a = 0) (h1 : 1 ≤ rule) (h3 : rule ≤ 3) (he : redErr a ds names = e) (h0 : e ≠ 0) : redF a ds names rule = (none, e) := by
  unfold redF
  rw [if_neg (by unfold chkA at hc; omega), if_pos (by rw [he]; exact h0), he]
theorem srcErr_go {a : Arr} {d : Dim} {r : List Dim} (hf : 0 ≤ (srcF a.dims a.attrs d.name).1) (ht : (!(srcF a.dims a.attrs d.name).2 && (at_ a.attrs (srcF a.dims a.attrs d.name).1.toNat).type != 2) = false) : srcErr a (d :: r) = srcErr a r := by
  rw [srcErr_step, if_neg (by omega), if_neg (by rw [ht]; simp)]
theorem redErr_src {a : Arr} {ds : List Dim} {names : List (List UInt8)} {e : Int} (h : srcErr a ds = e) (h0 : e ≠ 0) : redErr a ds names = e := by
  unfold redErr; rw [if_pos (by rw [h]; exact h0), h]
theorem redErr_kept {a : Arr} {ds : List Dim} {names : List (List UInt8)} {e : Int} (h0 : srcErr a ds = 0) (h : keptErr a names = e) (h1 : e ≠ 0) : redErr a ds names = e := by
  unfold redErr; rw [if_neg (by rw [h0]; simp), if_pos (by rw [h]; exact h1), h]
theorem redErr_sch {a : Arr} {ds : List Dim} {names : List (List UInt8)} (h0 : srcErr a ds = 0) (h : keptErr a names = 0) : redErr a ds names = schemaF ds (listF a names) := by
  unfold redErr; rw [if_neg (by rw [h0]; simp), if_neg (by rw [h]; simp)]
theorem row_app {α : Type} [Inhabited α] (f : α → List D) (l : List α) {n : Nat} {r : List (List D)} (h : r = (l.take n).map f) (hlt : n < l.length) : r.take n ++ [f (at_ l n)] = (l.take (n + 1)).map f := by
  rw [h]; exact row_next f l hlt
theorem kept_row {a : Arr} {names : List (List UInt8)} {n : Nat} {r : List (List D)} (h : r = (names.take n).map (fun x => encSrc (srcF a.dims a.attrs x))) (hn : names.length ≤ n) : r.take n = (keptF a names).map encSrc := by
  rw [h, List.take_of_length_le (by simp; omega), List.take_of_length_le hn]; simp [keptF]
theorem list_row {a : Arr} {names : List (List UInt8)} {n : Nat} {r : List (List D)} (h : r = (names.take n).map (fun x => encAttr ⟨x, srcT a.attrs (srcF a.dims a.attrs x)⟩)) (hn : names.length ≤ n) : r.take n = (listF a names).map encAttr := by
  rw [h, List.take_of_length_le (by simp; omega), List.take_of_length_le hn]; simp [listF]
theorem src_okS {a : Arr} (hA : OkA a.dims a.attrs a.cells) {n : List UInt8} (h : ¬ (srcF a.dims a.attrs n).1 < 0) {c : Cell} (hc : c ∈ a.cells) : okS (srcF a.dims a.attrs n) c := by
  obtain ⟨e1, e2, e3, e4⟩ := cellF_ok.1 (hA.cel c hc)
  rcases srcF_ok h with ⟨k, h1, h2, h3⟩ | ⟨k, h1, h2, h3⟩
  · rw [h1]
    exact ⟨Int.natCast_nonneg _, fun _ => by show k < _; omega, fun h => by cases h⟩
  · rw [h1]
    exact ⟨Int.natCast_nonneg _, (fun h => by cases h), fun _ => by show k < _; omega⟩
theorem srcErr_ok {a : Arr} : ∀ {l : List Dim}, srcErr a l = 0 → ∀ d ∈ l, ¬ (srcF a.dims a.attrs d.name).1 < 0
  | [], _, _, h => by simp at h
  | x :: r, h, d, hd => by
    rw [srcErr_step] at h
    split at h
    · omega
    split at h
    · omega
    rename_i h1 h2
    rcases List.mem_cons.1 hd with rfl | hd
    · exact h1
    · exact srcErr_ok h d hd
section
variable {src kept : List (Int × Bool)} {ds : List Dim} {rule : Int} {c : Cell} {cs cs' l : List Cell} {x : List Int} {j : Nat}
theorem where_has {j : Nat} : whereK x (cs.map Cell.at') j = (if idxGo (fun c : Cell => c.at' == x) cs j < 0 then none else some (idxGo (fun c : Cell => c.at' == x) cs j).toNat) := by
  induction cs generalizing j with
  | nil => rfl
  | cons c r ih =>
    by_cases hb : (c.at' == x) = true
    · simp [whereK, idxGo, hb]
    · have hb' : (c.at' == x) = false := by simpa using hb
      simp only [List.map_cons, whereK, idxGo, hb', Bool.false_eq_true, if_false]
      exact ih
theorem opt_cases (o : Option Nat) : o = none ∨ ∃ j, o = some j := by cases o <;> simp
theorem hasAt_w0 (h : whereK x (cs.map Cell.at') 0 = none) : hasAt x cs < 0 := by
  rw [where_has] at h
  by_cases h1 : hasAt x cs < 0
  · exact h1
  · rw [if_neg (show ¬ idxGo (fun c : Cell => c.at' == x) cs 0 < 0 from h1)] at h; cases h
theorem hasAt_w1 (h : whereK x (cs.map Cell.at') 0 = some j) : hasAt x cs = (j : Int) := by
  rw [where_has] at h
  by_cases h1 : hasAt x cs < 0
  · rw [if_pos (show idxGo (fun c : Cell => c.at' == x) cs 0 < 0 from h1)] at h; cases h
  · rw [if_neg (show ¬ idxGo (fun c : Cell => c.at' == x) cs 0 < 0 from h1)] at h
    cases h
    have : hasAt x cs = idxGo (fun c : Cell => c.at' == x) cs 0 := rfl
    omega
theorem red_skip (hm : movedF src ds c = none) : redStep src kept ds rule cs c = some cs := by unfold redStep; rw [hm]
theorem red_new (hm : movedF src ds c = some x) (h : hasAt x cs < 0) : redStep src kept ds rule cs c = some (cs ++ [nextF kept x c]) := by
  unfold redStep; rw [hm]; exact if_pos h
theorem red_old1 (hm : movedF src ds c = some x) (h : hasAt x cs = (j : Int)) (h1 : rule = 1) : redStep src kept ds rule cs c = none := by
  unfold redStep; rw [hm]
  show (if _ then _ else if _ then _ else _) = _
  rw [if_neg (by omega), if_pos h1]
theorem red_old3 (hm : movedF src ds c = some x) (h : hasAt x cs = (j : Int)) (h3 : rule = 3) : redStep src kept ds rule cs c = some (cs.set j (nextF kept x c)) := by
  unfold redStep; rw [hm]
  show (if _ then _ else if _ then _ else if _ then _ else _) = _
  rw [if_neg (by omega), if_neg (by omega), if_pos h3, h, Int.toNat_natCast]
theorem red_old2 (hm : movedF src ds c = some x) (h : hasAt x cs = (j : Int)) (h1 : rule ≠ 1) (h3 : rule ≠ 3) : redStep src kept ds rule cs c = some cs := by
  unfold redStep; rw [hm]
  show (if _ then _ else if _ then _ else if _ then _ else _) = _
  rw [if_neg (by omega), if_neg h1, if_neg h3]
theorem go_step (h : redStep src kept ds rule cs c = some cs') : redGo src kept ds rule cs (c :: l) = redGo src kept ds rule cs' l := by simp only [redGo, h]
theorem go_stop (h : redStep src kept ds rule cs c = none) : redGo src kept ds rule cs (c :: l) = none := by simp only [redGo, h]
theorem moved_no (hm : ¬ src.all (fun s => (ofS s c).kind == 2) = true) : movedF src ds c = none := by unfold movedF; rw [if_neg hm]
theorem moved_out (hm : src.all (fun s => (ofS s c).kind == 2) = true) (hw : (!withinL ds (numsF src c)) = true) : movedF src ds c = none := by
  unfold movedF; rw [if_pos hm, if_neg (by simpa using hw)]
theorem moved_in (hm : src.all (fun s => (ofS s c).kind == 2) = true) (hw : (!withinL ds (numsF src c)) = false) : movedF src ds c = some (numsF src c) := by
  unfold movedF; rw [if_pos hm, if_pos (by simpa using hw)]
end
theorem redF_some {a : Arr} {ds : List Dim} {names : List (List UInt8)} {rule : Int} {cs : List Cell} (hc : chkA a = 0) (h1 : 1 ≤ rule) (h3 : rule ≤ 3) (hre : redErr a ds names = 0) (h : redGo (fromF a ds) (keptF a names) ds rule [] a.cells = some cs) (hl : cs.length ≤ 4096) : redF a ds names rule = (some ⟨ds, listF a names, sortF cs⟩, 0) := by
  unfold redF
  rw [if_neg (by unfold chkA at hc; omega), if_neg (by simp [hre]), h]
  simp only [resF]
  rw [if_neg (by omega)]
theorem redF_none {a : Arr} {ds : List Dim} {names : List (List UInt8)} {rule : Int} (hc : chkA a = 0) (h1 : 1 ≤ rule) (h3 : rule ≤ 3) (hre : redErr a ds names = 0) (h : redGo (fromF a ds) (keptF a names) ds rule [] a.cells = none) : redF a ds names rule = (none, 19) := by
  unfold redF
  rw [if_neg (by unfold chkA at hc; omega), if_neg (by simp [hre]), h]
theorem c109y (c : Cell) (src : List (Int × Bool)) (ds : List Dim) (hl : src.length = ds.length) (h4 : src.length ≤ 1000) (hs : ∀ i, i < src.length → okS (at_ src i) c) (hm : src.all (fun s => (ofS s c).kind == 2) = true) :
    CallA Tryz.prog 109 [.agg [.d (encInts c.at'), .d (encVals c.vals)], .one (.d (encSrcs src)), .one (.d (encDims ds))] [] (.tup [(false, [.d (encInts (numsF src c))]), (false, [.d (.bool (withinL ds (numsF src c)))])]) [] := by
  have h := c109 c src ds hl h4 hs
  unfold movedAV at h
  rw [if_pos hm] at h
  exact h
theorem c109n (c : Cell) (src : List (Int × Bool)) (ds : List Dim) (hl : src.length = ds.length) (h4 : src.length ≤ 1000) (hs : ∀ i, i < src.length → okS (at_ src i) c) (hm : ¬ src.all (fun s => (ofS s c).kind == 2) = true) :
    CallA Tryz.prog 109 [.agg [.d (encInts c.at'), .d (encVals c.vals)], .one (.d (encSrcs src)), .one (.d (encDims ds))] [] (.tup [(false, [.d .nil]), (false, [.d (.bool false)])]) [] := by
  have h := c109 c src ds hl h4 hs
  unfold movedAV at h
  rw [if_neg hm] at h
  exact h
set_option maxHeartbeats 8000000 in
theorem c29 (a : Arr) (ds : List Dim) (names : List (List UInt8)) (rule : Int) (hdl : ds.length ≤ 1048576) (hnames : names.length ≤ 1048576) : CallA Tryz.prog 29 [aggA a, .one (.d (encDims ds)), .one (.d (encNames names)), .one (.d (.int .i64 rule))] [] (arrE (redF a ds names rule)) [] := by
  unfold aggA
  refine enter tabOk Tryz.func29 rfl (by decide +kernel) rfl fun hok w0 σ0 φ0 M => ?_
  clear hok
  by_cases hg : chkA a = 0 ∧ 1 ≤ rule ∧ rule ≤ 3
  rotate_left
  · have e : redF a ds names rule = (none, 2) := by
      unfold redF
      rw [if_pos (by unfold chkA at hg; omega)]
    rw [e]
    by_cases hc : chkA a = 0
    · have hv : (!validF [a]) = false := by simp [validF, hc]
      by_cases h1 : rule < 1
      · have hb1 : decide (rule < 1) = true := by simp [h1]
        repeat' (first | (show OkOps _ _ _ _ _ _; first | (show OkOps _ _ _ (Oper.mk _ (Op.call _) _ _ _ (_) :: _) _ _; first | refine s_callFS [2] rfl rfl rfl rfl rfl rfl rfl rfl rfl (c96 [a]) rfl ?_ | fail) | refine okops_nil ?_ | refine s_plain tabOk rfl rfl rfl rfl rfl ?_ | (show OkOps _ _ _ (Oper.mk _ (_) _ _ _ (some _) :: _) _ _; first | refine s_guard rfl rfl (by first | assumption | rfl) ?_ | refine s_out rfl rfl (by first | assumption | rfl) rfl rfl ?_ | fail) | (show OkOps _ _ _ (Oper.mk _ (Op.pick _ _ _) _ _ _ (_) :: _) _ _; first | refine s_e envOk rfl rfl rfl (step3_pickT rfl rfl (by first | rfl | assumption) rfl) ?_ | refine s_e envOk rfl rfl rfl (step3_pickF rfl rfl (by first | rfl | assumption) rfl) ?_ | fail) | (show OkOps _ _ _ (Oper.mk _ (Op.box _ _) _ _ _ (_) :: _) _ _; first | refine s_box 0 rfl rfl rfl rfl rfl rfl ?_ | fail) | (show OkOps _ _ _ (Oper.mk _ (Op.alloc _) _ _ _ (_) :: _) _ _; first | refine s_alloc tabOk 1 rfl rfl rfl rfl rfl ?_ | fail) | refine s_store envOk rfl rfl rfl ?_ | refine s_new envOk 2 rfl rfl rfl rfl rfl rfl ?_ | fail) | (show OkC _ _ _ _ _; first | refine ok_seq ?_ | refine ok_region ?_ | refine ok_ret ?_ | refine ok_condT rfl ?_ | fail) | (show thenQ _ _ _ _; first | refine then_n ?_ | refine then_r ?_ | fail) | (show RetQ _ _ _ _ _ _; first | refine ret_leaf (.inl rfl) rfl rfl ?_ | fail) | fail)
        all_goals rfl
      · have hb1 : decide (rule < 1) = false := by simp [h1]
        have hb2 : decide (3 < rule) = true := by simp; omega
        repeat' (first | (show OkOps _ _ _ _ _ _; first | (show OkOps _ _ _ (Oper.mk _ (Op.call _) _ _ _ (_) :: _) _ _; first | refine s_callFS [2] rfl rfl rfl rfl rfl rfl rfl rfl rfl (c96 [a]) rfl ?_ | fail) | refine okops_nil ?_ | refine s_plain tabOk rfl rfl rfl rfl rfl ?_ | (show OkOps _ _ _ (Oper.mk _ (_) _ _ _ (some _) :: _) _ _; first | refine s_guard rfl rfl (by first | assumption | rfl) ?_ | fail) | (show OkOps _ _ _ (Oper.mk _ (Op.pick _ _ _) _ _ _ (_) :: _) _ _; first | refine s_e envOk rfl rfl rfl (step3_pickF rfl rfl (by first | rfl | assumption) rfl) ?_ | fail) | (show OkOps _ _ _ (Oper.mk _ (Op.box _ _) _ _ _ (_) :: _) _ _; first | refine s_box 0 rfl rfl rfl rfl rfl rfl ?_ | fail) | (show OkOps _ _ _ (Oper.mk _ (Op.alloc _) _ _ _ (_) :: _) _ _; first | refine s_alloc tabOk 1 rfl rfl rfl rfl rfl ?_ | fail) | refine s_store envOk rfl rfl rfl ?_ | refine s_new envOk 2 rfl rfl rfl rfl rfl rfl ?_ | fail) | (show OkC _ _ _ _ _; first | refine ok_seq ?_ | refine ok_region ?_ | refine ok_ret ?_ | refine ok_condKT rfl (by assumption) ?_ | fail) | (show thenQ _ _ _ _; first | refine then_n ?_ | refine then_r ?_ | fail) | (show RetQ _ _ _ _ _ _; first | refine ret_leaf (.inl rfl) rfl rfl ?_ | fail) | fail)
        all_goals rfl
    · have hv : (!validF [a]) = true := by simp [validF, hc]
      repeat' (first | (show OkOps _ _ _ _ _ _; first | (show OkOps _ _ _ (Oper.mk _ (Op.call _) _ _ _ (_) :: _) _ _; first | refine s_callFS [2] rfl rfl rfl rfl rfl rfl rfl rfl rfl (c96 [a]) rfl ?_ | fail) | refine okops_nil ?_ | refine s_plain tabOk rfl rfl rfl rfl rfl ?_ | (show OkOps _ _ _ (Oper.mk _ (_) _ _ _ (some _) :: _) _ _; first | refine s_out rfl rfl (by first | assumption | rfl) rfl rfl ?_ | fail) | (show OkOps _ _ _ (Oper.mk _ (Op.pick _ _ _) _ _ _ (_) :: _) _ _; first | refine s_e envOk rfl rfl rfl (step3_pickT rfl rfl (by first | rfl | assumption) rfl) ?_ | fail) | (show OkOps _ _ _ (Oper.mk _ (Op.box _ _) _ _ _ (_) :: _) _ _; first | refine s_box 0 rfl rfl rfl rfl rfl rfl ?_ | fail) | (show OkOps _ _ _ (Oper.mk _ (Op.alloc _) _ _ _ (_) :: _) _ _; first | refine s_alloc tabOk 1 rfl rfl rfl rfl rfl ?_ | fail) | refine s_store envOk rfl rfl rfl ?_ | refine s_new envOk 2 rfl rfl rfl rfl rfl rfl ?_ | fail) | (show OkC _ _ _ _ _; first | refine ok_seq ?_ | refine ok_region ?_ | refine ok_ret ?_ | refine ok_condT rfl ?_ | fail) | (show thenQ _ _ _ _; first | refine then_n ?_ | refine then_r ?_ | fail) | (show RetQ _ _ _ _ _ _; first | refine ret_leaf (.inl rfl) rfl rfl ?_ | fail) | fail)
      all_goals rfl
  obtain ⟨hc, h1, h3⟩ := hg
  have hv : (!validF [a]) = false := by simp [validF, hc]
  have hb1 : decide (rule < 1) = false := by simp; omega
  have hb2 : decide (3 < rule) = false := by simp; omega
  have hA := okA hc
  repeat' (first | (show OkOps _ _ _ _ _ _; first | (show OkOps _ _ _ (Oper.mk _ (Op.call _) _ _ _ (_) :: _) _ _; first | refine s_callFS [2] rfl rfl rfl rfl rfl rfl rfl rfl rfl (c96 [a]) rfl ?_ | fail) | (show OkOps _ _ _ (Oper.mk _ (Op.call _) _ _ _ (_) :: _) _ _; first | refine s_callF rfl rfl rfl rfl rfl rfl rfl rfl (c107 a _) rfl ?_ | fail) | (show OkOps _ _ _ (Oper.mk _ (Op.indexAddr _ _ _) _ _ _ (_) :: _) _ _; first | refine s_e envOk rfl rfl rfl (step3_idx rfl rfl rfl rfl rfl (srcA_pos (by assumption)) (at_map (srcA_lt (by assumption) (by assumption)))) ?_ | fail) | (show OkOps _ _ _ (Oper.mk _ (Op.call _) _ _ _ (_) :: _) _ _; first | refine s_append tabOk rfl rfl rfl rfl rfl rfl rfl rfl rfl rfl rfl rfl rfl (by first | omega | ((try simp only [decide_eq_true_eq, decide_eq_false_iff_not, List.length_map, List.length_cons, List.length_nil, List.length_append, Int.toNat_natCast] at *); omega)) (by first | exact Nat.le_of_ble_eq_true rfl | omega | ((try simp only [decide_eq_true_eq, decide_eq_false_iff_not, List.length_map, List.length_cons, List.length_nil, List.length_append, Int.toNat_natCast] at *); omega)) (Nat.le_of_ble_eq_true rfl) ?_ | fail) | refine okops_nil ?_ | refine s_plain tabOk rfl rfl rfl rfl rfl ?_ | (show OkOps _ _ _ (Oper.mk _ (_) _ _ _ (some _) :: _) _ _; first | refine s_guard rfl rfl (by first | assumption | rfl) ?_ | refine s_out rfl rfl (by first | assumption | rfl) rfl rfl ?_ | refine s_split rfl rfl rfl rfl (fun h => ?_) (fun h => ?_) | fail) | (show OkOps _ _ _ (Oper.mk _ (Op.binOp .add _ _ _ _) _ _ _ (_) :: _) _ _; first | refine s_e envOk rfl rfl rfl (step3_add rfl rfl rfl rfl (wrap64 (by omega) (by omega))) ?_ | fail) | (show OkOps _ _ _ (Oper.mk _ (Op.pick _ _ _) _ _ _ (_) :: _) _ _; first | refine s_e envOk rfl rfl rfl (step3_pickT rfl rfl (by first | rfl | assumption) rfl) ?_ | refine s_e envOk rfl rfl rfl (step3_pickF rfl rfl (by first | rfl | assumption) rfl) ?_ | fail) | (show OkOps _ _ _ (Oper.mk _ (Op.indexAddr _ _ _) _ _ _ (_) :: _) _ _; first | refine s_e envOk rfl rfl rfl (step3_idx rfl rfl rfl rfl rfl (by first | omega | ((try simp only [decide_eq_true_eq, decide_eq_false_iff_not, Bool.not_eq_true', Bool.not_true, Bool.not_false, List.length_map, List.length_set, bne_iff_ne, ne_eq, beq_iff_eq, bne_eq_false_iff_eq, beq_eq_false_iff_ne] at *); omega)) (at_map (by first | omega | ((try simp only [decide_eq_true_eq, decide_eq_false_iff_not, Bool.not_eq_true', Bool.not_true, Bool.not_false, List.length_map, List.length_set, bne_iff_ne, ne_eq, beq_iff_eq, bne_eq_false_iff_eq, beq_eq_false_iff_ne] at *); omega)))) ?_ | fail) | (show OkOps _ _ _ (Oper.mk _ (Op.box _ _) _ _ _ (_) :: _) _ _; first | refine s_box 0 rfl rfl rfl rfl rfl rfl ?_ | fail) | (show OkOps _ _ _ (Oper.mk _ (Op.alloc _) _ _ _ (_) :: _) _ _; first | refine s_alloc tabOk 1 rfl rfl rfl rfl rfl ?_ | refine s_alloc tabOk 2 rfl rfl rfl rfl rfl ?_ | refine s_alloc tabOk 3 rfl rfl rfl rfl rfl ?_ | fail) | refine s_store envOk rfl rfl rfl ?_ | refine s_new envOk 2 rfl rfl rfl rfl rfl rfl ?_ | refine s_new envOk 4 rfl rfl rfl rfl rfl rfl ?_ | fail) | (show OkC _ _ _ _ _; first | refine ok_seq ?_ | refine ok_region ?_ | refine ok_block ?_ | refine ok_skip ?_ | refine ok_ret ?_ | refine ok_exit ?_ | refine ok_condF rfl ?_ | refine ok_condKF rfl (by assumption) ?_ | refine ok_cond rfl (fun h => ?_) (fun h => ?_) | refine s_loopN 6 rfl (imp_adopt (s := 10) (id := 10) (k := 2) (b := 16) rfl rfl rfl rfl) [(1, _), (2, _), (3, _), (4, _), (8, _), (11, _), (12, _), (47, _), (48, _)] (subL_cons rfl (subL_cons rfl (subL_cons rfl (subL_cons rfl (subL_cons rfl (subL_cons rfl (subL_cons rfl (subL_cons rfl (subL_cons rfl subL_nil))))))))) (fun (bN : Bool × Bool) (p : Nat × List (List D)) => [(10, .one (.own 10 p.1)), (49, .one (.d (.int .i64 (p.1 : Int))))]) (fun (bN : Bool × Bool) (p : Nat × List (List D)) => [(10, .row 2 16 p.2), (0, .box [.d (encDims a.dims), .d (encAttrs a.attrs), .d (encCells a.cells)]), (1, .box [.d .nil, .d .nil, .d .nil])]) (fun (p : Nat × List (List D)) => p.1 ≤ ds.length ∧ p.2 = (ds.take p.1).map (fun d => encSrc (srcF a.dims a.attrs d.name)) ∧ srcErr a ds = srcErr a (ds.drop p.1)) (fun (p : Nat × List (List D)) => ds.length - p.1) (0, []) (subL_cons rfl (subL_cons rfl subL_nil)) (by first | exact subL_nil | exact (subL_cons rfl subL_nil) | exact (subL_cons rfl (subL_cons rfl subL_nil)) | exact (subL_cons rfl (subL_cons rfl (subL_cons rfl subL_nil))) | exact (subL_cons rfl (subL_cons rfl (subL_cons rfl (subL_cons rfl subL_nil)))) | exact (subL_cons rfl (subL_cons rfl (subL_cons rfl (subL_cons rfl (subL_cons rfl subL_nil))))) | exact (subL_cons rfl (subL_cons rfl (subL_cons rfl (subL_cons rfl (subL_cons rfl (subL_cons rfl subL_nil)))))) | exact (subL_cons rfl (subL_cons rfl (subL_cons rfl (subL_cons rfl (subL_cons rfl (subL_cons rfl (subL_cons rfl subL_nil))))))) | exact (subL_cons rfl (subL_cons rfl (subL_cons rfl (subL_cons rfl (subL_cons rfl (subL_cons rfl (subL_cons rfl (subL_cons rfl subL_nil))))))))) (fun b y => by obtain ⟨b1, b2⟩ := b; cases b1 <;> cases b2 <;> first | exact Imp.refl _ | exact imp_ren qN (by kernel_rfl)) ?_ (fun p ⟨hp1, hp2, hp3⟩ => ?_) | fail) | (show thenQ _ _ _ _; first | refine then_n ?_ | refine then_r ?_ | refine then_x ?_ | fail) | (show blockQ _ _ _ _; first | refine block_n ?_ | refine block_r ?_ | refine block_x rfl ?_ | fail) | (show RetQ _ _ _ _ _ _; first | refine ret_leaf (.inl rfl) rfl rfl ?_ | fail) | (show Exists _; first | refine Exists.intro ((p.1 + 1, p.2.take p.1 ++ [[.int .i64 (srcF a.dims a.attrs (at_ ds p.1).name).1, .bool (srcF a.dims a.attrs (at_ ds p.1).name).2]])) (Exists.intro (false, false) ⟨?_, ?_, (by first | exact subL_nil | exact (subL_cons rfl subL_nil) | exact (subL_cons rfl (subL_cons rfl subL_nil)) | exact (subL_cons rfl (subL_cons rfl (subL_cons rfl subL_nil))) | exact (subL_cons rfl (subL_cons rfl (subL_cons rfl (subL_cons rfl subL_nil)))) | exact (subL_cons rfl (subL_cons rfl (subL_cons rfl (subL_cons rfl (subL_cons rfl subL_nil))))) | exact (subL_cons rfl (subL_cons rfl (subL_cons rfl (subL_cons rfl (subL_cons rfl (subL_cons rfl subL_nil)))))) | exact (subL_cons rfl (subL_cons rfl (subL_cons rfl (subL_cons rfl (subL_cons rfl (subL_cons rfl (subL_cons rfl subL_nil))))))) | exact (subL_cons rfl (subL_cons rfl (subL_cons rfl (subL_cons rfl (subL_cons rfl (subL_cons rfl (subL_cons rfl (subL_cons rfl subL_nil))))))))), (subL_cons rfl (subL_cons rfl subL_nil)), (subL_cons rfl (subL_cons rfl (subL_cons rfl (subL_cons rfl (subL_cons rfl (subL_cons rfl (subL_cons rfl (subL_cons rfl (subL_cons rfl subL_nil)))))))))⟩) | fail) | fail)
  · exact ⟨Nat.zero_le _, rfl, rfl⟩
  · have hlt : p.1 < ds.length := by simpa using ‹decide ((p.1 : Int) < ((ds.map encDim).length : Int)) = true›
    have hs := srcErr_step (a := a) (d := at_ ds p.1) (r := ds.drop (p.1 + 1))
    rw [← at_drop hlt, ← hp3] at hs
    have h' : (!decide (0 ≤ (srcF a.dims a.attrs (at_ ds p.1).name).1)) = true := h
    rw [if_pos (by simp at h'; omega)] at hs
    rw [red_err hc h1 h3 (redErr_src hs (by decide)) (by decide)]
    rfl
  · have hlt : p.1 < ds.length := by simpa using ‹decide ((p.1 : Int) < ((ds.map encDim).length : Int)) = true›
    have hs := srcErr_step (a := a) (d := at_ ds p.1) (r := ds.drop (p.1 + 1))
    rw [← at_drop hlt, ← hp3] at hs
    have h4 : 0 ≤ (srcF a.dims a.attrs (at_ ds p.1).name).1 := srcA_pos (by assumption)
    have h5 : (!(srcF a.dims a.attrs (at_ ds p.1).name).2) = true := by assumption
    have h6 : ((at_ a.attrs (srcF a.dims a.attrs (at_ ds p.1).name).1.toNat).type != 2) = true := h
    rw [if_neg (by omega), if_pos (by rw [h5, h6]; rfl)] at hs
    rw [red_err hc h1 h3 (redErr_src hs (by decide)) (by decide)]
    rfl
  · have hlt : p.1 < ds.length := by simpa using ‹decide ((p.1 : Int) < ((ds.map encDim).length : Int)) = true›
    have h4 : 0 ≤ (srcF a.dims a.attrs (at_ ds p.1).name).1 := srcA_pos (by assumption)
    have h6 : ((at_ a.attrs (srcF a.dims a.attrs (at_ ds p.1).name).1.toNat).type != 2) = false := h
    refine ⟨hlt, row_app _ ds hp2 hlt, ?_⟩
    rw [hp3, at_drop hlt]
    exact srcErr_go h4 (by rw [h6, Bool.and_false])
  · have hlt : p.1 < ds.length := by simpa using ‹decide ((p.1 : Int) < ((ds.map encDim).length : Int)) = true›
    show ds.length - (p.1 + 1) < ds.length - p.1
    omega
  · have hlt : p.1 < ds.length := by simpa using ‹decide ((p.1 : Int) < ((ds.map encDim).length : Int)) = true›
    have h4 : 0 ≤ (srcF a.dims a.attrs (at_ ds p.1).name).1 := srcA_pos (by assumption)
    have h5 : (!(srcF a.dims a.attrs (at_ ds p.1).name).2) = false := h
    refine ⟨hlt, row_app _ ds hp2 hlt, ?_⟩
    rw [hp3, at_drop hlt]
    exact srcErr_go h4 (by rw [h5, Bool.false_and])
  · have hlt : p.1 < ds.length := by simpa using ‹decide ((p.1 : Int) < ((ds.map encDim).length : Int)) = true›
    show ds.length - (p.1 + 1) < ds.length - p.1
    omega
  have hpn : p.1 = ds.length := by
    have : ds.length ≤ p.1 := by simpa using h
    omega
  have hse : srcErr a ds = 0 := by rw [hp3, hpn, List.drop_length]; rfl
  have hfX : p.2.take p.1 = (fromF a ds).map encSrc := by
    rw [List.take_of_length_le (by rw [hp2]; simp; omega), hp2, hpn, List.take_length]
    simp [fromF]
  refine okc_imp (st' := ⟨[(1, .one (.d (encDims ds))), (3, .one (.d (.int .i64 rule))), (4, .one (.ref 0 0)), (8, .one (.ref 1 0)), (10, .one (.d (encSrcs (fromF a ds)))), (11, .one (.d .nil)), (12, .one (.d .nil)), (84, .one (.d (encNames names))), (85, .one (.d (.int .i64 ((names.map encName).length : Int)))), (86, .one (.d (.int .i64 0)))],
    [(0, .box [.d (encDims a.dims), .d (encAttrs a.attrs), .d (encCells a.cells)]), (1, .box [.d .nil, .d .nil, .d .nil])]⟩) (Imp.trans (imp_sealL (dl := [10]) rfl) (imp_sub (subL_cons rfl (subL_cons rfl (subL_cons rfl (subL_cons rfl (subL_cons (congrArg (fun x => some (AV.one (AC.d (D.sl 2 16 x)))) hfX) (subL_cons rfl (subL_cons rfl (subL_cons rfl (subL_cons rfl (subL_cons rfl subL_nil)))))))))) (subL_cons rfl (subL_cons rfl subL_nil)))) ?_
  clear h hp1 hp2 hp3 hpn hfX
  repeat' (first | (show OkOps _ _ _ _ _ _; first | (show OkOps _ _ _ (Oper.mk _ (Op.call _) _ _ _ (_) :: _) _ _; first | refine s_callF rfl rfl rfl rfl rfl rfl rfl rfl (c107 a _) rfl ?_ | fail) | (show OkOps _ _ _ (Oper.mk _ (Op.indexAddr _ _ _) _ _ _ (_) :: _) _ _; first | refine s_e envOk rfl rfl rfl (step3_idx rfl rfl rfl rfl rfl (srcA_pos (by assumption)) (at_map (srcA_lt (by assumption) (by assumption)))) ?_ | fail) | (show OkOps _ _ _ (Oper.mk _ (Op.makeMap _ _) _ _ _ (_) :: _) _ _; first | refine s_new envOk 14 rfl rfl rfl rfl rfl rfl ?_ | fail) | (show OkOps _ _ _ (Oper.mk _ (Op.call _) _ _ _ (_) :: _) _ _; first | refine s_append tabOk rfl rfl rfl rfl rfl rfl rfl rfl rfl rfl rfl rfl rfl (by first | omega | ((try simp only [decide_eq_true_eq, decide_eq_false_iff_not, List.length_map, List.length_cons, List.length_nil, List.length_append, Int.toNat_natCast] at *); omega)) (by first | exact Nat.le_of_ble_eq_true rfl | omega | ((try simp only [decide_eq_true_eq, decide_eq_false_iff_not, List.length_map, List.length_cons, List.length_nil, List.length_append, Int.toNat_natCast] at *); omega)) (Nat.le_of_ble_eq_true rfl) ?_ | fail) | refine okops_nil ?_ | refine s_plain tabOk rfl rfl rfl rfl rfl ?_ | (show OkOps _ _ _ (Oper.mk _ (Op.binOp .add _ _ _ _) _ _ _ (_) :: _) _ _; first | refine s_e envOk rfl rfl rfl (step3_add rfl rfl rfl rfl (wrap64 (by omega) (by omega))) ?_ | fail) | (show OkOps _ _ _ (Oper.mk _ (Op.indexAddr _ _ _) _ _ _ (_) :: _) _ _; first | refine s_e envOk rfl rfl rfl (step3_idx rfl rfl rfl rfl rfl (by first | omega | ((try simp only [decide_eq_true_eq, decide_eq_false_iff_not, Bool.not_eq_true', Bool.not_true, Bool.not_false, List.length_map, List.length_set, bne_iff_ne, ne_eq, beq_iff_eq, bne_eq_false_iff_eq, beq_eq_false_iff_ne] at *); omega)) (at_map (by first | omega | ((try simp only [decide_eq_true_eq, decide_eq_false_iff_not, Bool.not_eq_true', Bool.not_true, Bool.not_false, List.length_map, List.length_set, bne_iff_ne, ne_eq, beq_iff_eq, bne_eq_false_iff_eq, beq_eq_false_iff_ne] at *); omega)))) ?_ | fail) | (show OkOps _ _ _ (Oper.mk _ (Op.call _) _ _ _ (_) :: _) _ _; first | refine s_callF rfl rfl rfl rfl rfl rfl rfl rfl (c108 _ _) rfl ?_ | fail) | (show OkOps _ _ _ (Oper.mk _ (Op.alloc _) _ _ _ (_) :: _) _ _; first | refine s_alloc tabOk 2 rfl rfl rfl rfl rfl ?_ | fail) | refine s_store envOk rfl rfl rfl ?_ | refine s_new envOk 3 rfl rfl rfl rfl rfl rfl ?_ | refine s_new envOk 4 rfl rfl rfl rfl rfl rfl ?_ | fail) | (show OkC _ _ _ _ _; first | (show OkC _ _ (Code.region 26 _ _) _ _; refine okc_imp (st' := ⟨[(1, .one (.d (encDims ds))), (3, .one (.d (.int .i64 rule))), (4, .one (.ref 0 0)), (8, .one (.ref 1 0)), (10, .one (.d (encSrcs (fromF a ds)))), (11, .one (.d (encSrcs (keptF a names)))), (12, .one (.d (encAttrs (listF a names))))], [(0, .box [.d (encDims a.dims), .d (encAttrs a.attrs), .d (encCells a.cells)]), (1, .box [.d .nil, .d .nil, .d .nil])]⟩) (Imp.trans (imp_sealL (dl := [11, 12]) rfl) (imp_sub (subL_cons rfl (subL_cons rfl (subL_cons rfl (subL_cons rfl (subL_cons rfl (subL_cons (congrArg (fun x => some (AV.one (AC.d (D.sl 2 16 x)))) (kept_row hq2 (by first | omega | ((try simp only [decide_eq_true_eq, decide_eq_false_iff_not, Bool.not_eq_true', Bool.not_true, Bool.not_false, List.length_map, List.length_set, bne_iff_ne, ne_eq, beq_iff_eq, bne_eq_false_iff_eq, beq_eq_false_iff_ne] at *); omega)))) (subL_cons (congrArg (fun x => some (AV.one (AC.d (D.sl 2 24 x)))) (list_row hq3 (by first | omega | ((try simp only [decide_eq_true_eq, decide_eq_false_iff_not, Bool.not_eq_true', Bool.not_true, Bool.not_false, List.length_map, List.length_set, bne_iff_ne, ne_eq, beq_iff_eq, bne_eq_false_iff_eq, beq_eq_false_iff_ne] at *); omega)))) subL_nil))))))) (subL_cons rfl (subL_cons rfl subL_nil)))) ?_) | refine ok_seq ?_ | refine ok_region ?_ | refine ok_block ?_ | refine ok_skip ?_ | refine ok_ret ?_ | refine ok_exit ?_ | refine ok_cond rfl (fun h => ?_) (fun h => ?_) | refine s_loopN 16 rfl (Imp.trans (imp_adopt (s := 11) (id := 11) (k := 2) (b := 16) rfl rfl rfl rfl) (imp_adopt (s := 12) (id := 12) (k := 2) (b := 24) rfl rfl rfl rfl)) [(1, _), (3, _), (4, _), (8, _), (10, _), (84, _), (85, _)] (subL_cons rfl (subL_cons rfl (subL_cons rfl (subL_cons rfl (subL_cons rfl (subL_cons rfl (subL_cons rfl subL_nil))))))) (fun (bN : Bool × Bool) (q : Nat × List (List D) × List (List D)) => [(11, .one (.own 11 q.1)), (12, .one (.own 12 q.1)), (86, .one (.d (.int .i64 (q.1 : Int))))]) (fun (bN : Bool × Bool) (q : Nat × List (List D) × List (List D)) => [(11, .row 2 16 q.2.1), (12, .row 2 24 q.2.2), (0, .box [.d (encDims a.dims), .d (encAttrs a.attrs), .d (encCells a.cells)]), (1, .box [.d .nil, .d .nil, .d .nil])]) (fun (q : Nat × List (List D) × List (List D)) => q.1 ≤ names.length ∧ q.2.1 = (names.take q.1).map (fun n => encSrc (srcF a.dims a.attrs n)) ∧ q.2.2 = (names.take q.1).map (fun n => encAttr ⟨n, srcT a.attrs (srcF a.dims a.attrs n)⟩) ∧ keptErr a names = keptErr a (names.drop q.1)) (fun (q : Nat × List (List D) × List (List D)) => names.length - q.1) (0, [], []) (subL_cons rfl (subL_cons rfl (subL_cons rfl subL_nil))) (by first | exact subL_nil | exact (subL_cons rfl subL_nil) | exact (subL_cons rfl (subL_cons rfl subL_nil)) | exact (subL_cons rfl (subL_cons rfl (subL_cons rfl subL_nil))) | exact (subL_cons rfl (subL_cons rfl (subL_cons rfl (subL_cons rfl subL_nil)))) | exact (subL_cons rfl (subL_cons rfl (subL_cons rfl (subL_cons rfl (subL_cons rfl subL_nil))))) | exact (subL_cons rfl (subL_cons rfl (subL_cons rfl (subL_cons rfl (subL_cons rfl (subL_cons rfl subL_nil)))))) | exact (subL_cons rfl (subL_cons rfl (subL_cons rfl (subL_cons rfl (subL_cons rfl (subL_cons rfl (subL_cons rfl subL_nil))))))) | exact (subL_cons rfl (subL_cons rfl (subL_cons rfl (subL_cons rfl (subL_cons rfl (subL_cons rfl (subL_cons rfl (subL_cons rfl subL_nil))))))))) (fun b y => by obtain ⟨b1, b2⟩ := b; cases b1 <;> cases b2 <;> first | exact Imp.refl _ | exact imp_ren qN (by kernel_rfl)) ?_ (fun q ⟨hq1, hq2, hq3, hq4⟩ => ?_) | fail) | (show thenQ _ _ _ _; first | refine then_n ?_ | refine then_r ?_ | refine then_x ?_ | fail) | (show blockQ _ _ _ _; first | refine block_n ?_ | refine block_r ?_ | refine block_x rfl ?_ | fail) | (show RetQ _ _ _ _ _ _; first | refine ret_leaf (.inl rfl) rfl rfl ?_ | fail) | (show Exists _; first | refine Exists.intro ((q.1 + 1, q.2.1.take q.1 ++ [[.int .i64 (srcF a.dims a.attrs (at_ names q.1)).1, .bool (srcF a.dims a.attrs (at_ names q.1)).2]], q.2.2.take q.1 ++ [[.str (at_ names q.1), .int .i64 (at_ a.attrs (srcF a.dims a.attrs (at_ names q.1)).1.toNat).type]])) (Exists.intro (false, false) ⟨?_, ?_, (by first | exact subL_nil | exact (subL_cons rfl subL_nil) | exact (subL_cons rfl (subL_cons rfl subL_nil)) | exact (subL_cons rfl (subL_cons rfl (subL_cons rfl subL_nil))) | exact (subL_cons rfl (subL_cons rfl (subL_cons rfl (subL_cons rfl subL_nil)))) | exact (subL_cons rfl (subL_cons rfl (subL_cons rfl (subL_cons rfl (subL_cons rfl subL_nil))))) | exact (subL_cons rfl (subL_cons rfl (subL_cons rfl (subL_cons rfl (subL_cons rfl (subL_cons rfl subL_nil)))))) | exact (subL_cons rfl (subL_cons rfl (subL_cons rfl (subL_cons rfl (subL_cons rfl (subL_cons rfl (subL_cons rfl subL_nil))))))) | exact (subL_cons rfl (subL_cons rfl (subL_cons rfl (subL_cons rfl (subL_cons rfl (subL_cons rfl (subL_cons rfl (subL_cons rfl subL_nil))))))))), (subL_cons rfl (subL_cons rfl (subL_cons rfl subL_nil))), (subL_cons rfl (subL_cons rfl (subL_cons rfl (subL_cons rfl (subL_cons rfl (subL_cons rfl (subL_cons rfl subL_nil)))))))⟩) | refine Exists.intro ((q.1 + 1, q.2.1.take q.1 ++ [[.int .i64 (srcF a.dims a.attrs (at_ names q.1)).1, .bool (srcF a.dims a.attrs (at_ names q.1)).2]], q.2.2.take q.1 ++ [[.str (at_ names q.1), .int .i64 2]])) (Exists.intro (false, false) ⟨?_, ?_, (by first | exact subL_nil | exact (subL_cons rfl subL_nil) | exact (subL_cons rfl (subL_cons rfl subL_nil)) | exact (subL_cons rfl (subL_cons rfl (subL_cons rfl subL_nil))) | exact (subL_cons rfl (subL_cons rfl (subL_cons rfl (subL_cons rfl subL_nil)))) | exact (subL_cons rfl (subL_cons rfl (subL_cons rfl (subL_cons rfl (subL_cons rfl subL_nil))))) | exact (subL_cons rfl (subL_cons rfl (subL_cons rfl (subL_cons rfl (subL_cons rfl (subL_cons rfl subL_nil)))))) | exact (subL_cons rfl (subL_cons rfl (subL_cons rfl (subL_cons rfl (subL_cons rfl (subL_cons rfl (subL_cons rfl subL_nil))))))) | exact (subL_cons rfl (subL_cons rfl (subL_cons rfl (subL_cons rfl (subL_cons rfl (subL_cons rfl (subL_cons rfl (subL_cons rfl subL_nil))))))))), (subL_cons rfl (subL_cons rfl (subL_cons rfl subL_nil))), (subL_cons rfl (subL_cons rfl (subL_cons rfl (subL_cons rfl (subL_cons rfl (subL_cons rfl (subL_cons rfl subL_nil)))))))⟩) | fail) | fail)
  · exact ⟨Nat.zero_le _, rfl, rfl, rfl⟩
  · have hlt : q.1 < names.length := by simpa using ‹decide ((q.1 : Int) < ((names.map encName).length : Int)) = true›
    have hs := keptErr_step (a := a) (n := at_ names q.1) (r := names.drop (q.1 + 1))
    rw [← at_drop hlt, ← hq4] at hs
    have h' : (!decide (0 ≤ (srcF a.dims a.attrs (at_ names q.1)).1)) = true := h
    rw [if_pos (by simp at h'; omega)] at hs
    rw [red_err hc h1 h3 (redErr_kept hse hs (by decide)) (by decide)]
    rfl
  · have hlt : q.1 < names.length := by simpa using ‹decide ((q.1 : Int) < ((names.map encName).length : Int)) = true›
    have h4 : 0 ≤ (srcF a.dims a.attrs (at_ names q.1)).1 := srcA_pos (by assumption)
    have h5 : (!(srcF a.dims a.attrs (at_ names q.1)).2) = true := h
    have e : srcT a.attrs (srcF a.dims a.attrs (at_ names q.1)) = (at_ a.attrs (srcF a.dims a.attrs (at_ names q.1)).1.toNat).type := by
      unfold srcT
      rw [show (srcF a.dims a.attrs (at_ names q.1)).2 = false by simpa using h5]
      rfl
    refine ⟨hlt, row_app _ names hq2 hlt, ?_, ?_⟩
    · show q.2.2.take q.1 ++ [[.str _, .int .i64 _]] = _
      rw [← e]; exact row_app (fun x => encAttr ⟨x, srcT a.attrs (srcF a.dims a.attrs x)⟩) names hq3 hlt
    · rw [hq4, at_drop hlt, keptErr_step, if_neg (by omega)]
  · have hlt : q.1 < names.length := by simpa using ‹decide ((q.1 : Int) < ((names.map encName).length : Int)) = true›
    show names.length - (q.1 + 1) < names.length - q.1
    omega
  · have hlt : q.1 < names.length := by simpa using ‹decide ((q.1 : Int) < ((names.map encName).length : Int)) = true›
    have h4 : 0 ≤ (srcF a.dims a.attrs (at_ names q.1)).1 := srcA_pos (by assumption)
    have h5 : (!(srcF a.dims a.attrs (at_ names q.1)).2) = false := h
    have e : srcT a.attrs (srcF a.dims a.attrs (at_ names q.1)) = 2 := by
      unfold srcT
      rw [show (srcF a.dims a.attrs (at_ names q.1)).2 = true by simpa using h5]
      rfl
    refine ⟨hlt, row_app _ names hq2 hlt, ?_, ?_⟩
    · show q.2.2.take q.1 ++ [[.str _, .int .i64 _]] = _
      rw [← e]; exact row_app (fun x => encAttr ⟨x, srcT a.attrs (srcF a.dims a.attrs x)⟩) names hq3 hlt
    · rw [hq4, at_drop hlt, keptErr_step, if_neg (by omega)]
  · have hlt : q.1 < names.length := by simpa using ‹decide ((q.1 : Int) < ((names.map encName).length : Int)) = true›
    show names.length - (q.1 + 1) < names.length - q.1
    omega
  · have hqn : q.1 = names.length := by
      have : names.length ≤ q.1 := by simpa using ‹decide ((q.1 : Int) < ((names.map encName).length : Int)) = false›
      omega
    have hke : keptErr a names = 0 := by rw [hq4, hqn, List.drop_length]; rfl
    have hsn : schemaF ds (listF a names) ≠ 0 := by simpa using h
    rw [red_err hc h1 h3 (redErr_sch hse hke) hsn]
    rfl
  have hqn : q.1 = names.length := by
    have : names.length ≤ q.1 := by simpa using ‹decide ((q.1 : Int) < ((names.map encName).length : Int)) = false›
    omega
  have hke : keptErr a names = 0 := by rw [hq4, hqn, List.drop_length]; rfl
  have hsc : schemaF ds (listF a names) = 0 := by simpa using h
  have hre : redErr a ds names = 0 := (redErr_sch hse hke).trans hsc
  have hd4 : ds.length ≤ 4 := (dimsF_ok (schemaF_ok hsc).1).2.1
  have hfl : (fromF a ds).length = ds.length := by simp [fromF]
  have hnl : ∀ c, (numsF (fromF a ds) c).length = ds.length := fun c => by simp [numsF, fromF]
  have hn4 : ∀ c, (numsF (fromF a ds) c).length ≤ 4 := fun c => by rw [hnl]; exact hd4
  have hfs : ∀ j, j < a.cells.length → ∀ i, i < (fromF a ds).length → okS (at_ (fromF a ds) i) (at_ a.cells j) := fun j hj i hi => by
    have hi' : i < ds.length := by rw [← hfl]; exact hi
    rw [fromF, at_mapN hi']
    exact src_okS hA (srcErr_ok hse _ (at_mem hi')) (at_mem hj)
  have hks : ∀ i j, i < (keptF a names).length → j < a.cells.length → okS (at_ (keptF a names) i) (at_ a.cells j) := fun i j hi hj => by
    have hi' : i < names.length := by simpa [keptF] using hi
    rw [keptF, at_mapN hi']
    exact src_okS hA (keptErr_ok hke _ (at_mem hi')) (at_mem hj)
  have hcn : a.cells.length ≤ 4096 := hA.few
  have hkn : (keptF a names).length ≤ 6 := by have := (schemaF_ok hsc).2.2.1; simpa [keptF, listF] using this
  clear hq1 hq2 hq3 hq4 hqn
  repeat' (first | (show OkOps _ _ _ _ _ _; first | (show OkOps _ _ _ (Oper.mk _ (Op.call _) _ _ _ (_) :: _) _ _; first | refine s_callD 16 rfl rfl rfl rfl rfl rfl rfl rfl (c109y (at_ a.cells (p.1 : Int).toNat) (fromF a ds) ds hfl (by omega) (hfs _ (by first | omega | ((try simp only [decide_eq_true_eq, decide_eq_false_iff_not, Bool.not_eq_true', Bool.not_true, Bool.not_false, List.length_map, List.length_set, bne_iff_ne, ne_eq, beq_iff_eq, bne_eq_false_iff_eq, beq_eq_false_iff_ne] at *); omega))) (by assumption)) rfl rfl rfl ?_ | fail) | (show OkOps _ _ _ (Oper.mk _ (Op.call _) _ _ _ (_) :: _) _ _; first | refine s_callD 16 rfl rfl rfl rfl rfl rfl rfl rfl (c109n (at_ a.cells (p.1 : Int).toNat) (fromF a ds) ds hfl (by omega) (hfs _ (by first | omega | ((try simp only [decide_eq_true_eq, decide_eq_false_iff_not, Bool.not_eq_true', Bool.not_true, Bool.not_false, List.length_map, List.length_set, bne_iff_ne, ne_eq, beq_iff_eq, bne_eq_false_iff_eq, beq_eq_false_iff_ne] at *); omega))) (by assumption)) rfl rfl rfl ?_ | fail) | (show OkOps _ _ _ (Oper.mk _ (Op.call { callee := .value (.func 109), args := _, argTypes := _ }) _ _ _ (_) :: _) _ _; first | (fail_if_success (have := hmk)); by_cases hmk : ((fromF a ds).all fun s => (ofS s (at_ a.cells (p.1 : Int).toNat)).kind == 2) = true | fail) | (show OkOps _ _ _ (Oper.mk _ (Op.call _) _ _ _ (_) :: _) _ _; first | refine s_append tabOk rfl rfl rfl rfl rfl rfl rfl rfl rfl rfl rfl rfl rfl (by first | omega | ((try simp only [decide_eq_true_eq, decide_eq_false_iff_not, List.length_map, List.length_cons, List.length_nil, List.length_append, Int.toNat_natCast] at *); omega)) (by first | exact Nat.le_of_ble_eq_true rfl | omega | ((try simp only [decide_eq_true_eq, decide_eq_false_iff_not, List.length_map, List.length_cons, List.length_nil, List.length_append, Int.toNat_natCast] at *); omega)) (Nat.le_of_ble_eq_true rfl) ?_ | fail) | (show OkOps _ _ _ (Oper.mk _ (Op.lookup _ _ _ _) _ _ _ (_) :: _) _ _; first | refine s_e envOk rfl rfl rfl (step3_lookM0 rfl rfl rfl rfl rfl rfl rfl rfl rfl (hn4 _) (fun k hk => (hi6 k hk).trans (hnl _).symm) (by assumption)) ?_ | fail) | (show OkOps _ _ _ (Oper.mk _ (Op.lookup _ _ _ _) _ _ _ (_) :: _) _ _; first | refine s_e envOk rfl rfl rfl (step3_lookM1 rfl rfl rfl rfl rfl rfl rfl rfl (hn4 _) (fun k hk => (hi6 k hk).trans (hnl _).symm) (by assumption)) ?_ | fail) | (show OkOps _ _ _ (Oper.mk _ (Op.lookup _ _ _ _) _ _ _ (_) :: _) _ _; first | ((fail_if_success (have := hwk)); (rcases opt_cases (whereK (numsF (fromF a ds) (at_ a.cells (p.1 : Int).toNat)) p.2.2.2.1 0) with hwk | ⟨j, hwk⟩)) | fail) | (show OkOps _ _ _ (Oper.mk _ (Op.mapUpdate _ _ _ _) _ _ _ (_) :: _) _ _; first | refine s_store envOk rfl rfl (step3_updM rfl rfl rfl rfl rfl rfl rfl rfl rfl rfl (hn4 _) (fun k hk => (hi6 k hk).trans (hnl _).symm) (by assumption) (congrArg (fun n : Nat => D.int .i64 (n : Int)) hi7)) ?_ | fail) | (show OkOps _ _ _ (Oper.mk _ (Op.indexAddr _ _ _) _ _ _ (_) :: _) _ _; first | refine s_e envOk rfl rfl rfl (step3_idxOwn rfl rfl rfl rfl rfl rfl (Int.natCast_nonneg _) (whereK_ltI hwk hi7)) ?_ | fail) | (show OkOps _ _ _ (Oper.mk _ (Op.store _ _ _) _ _ _ (_) :: _) _ _; first | refine s_store envOk rfl rfl (step3_storeRow rfl rfl rfl rfl rfl rfl rfl rfl rfl (row_get hi4 (by have := whereK_ltI hwk hi7; simp only [Int.toNat_natCast]; omega)) rfl) ?_ | fail) | (show OkOps _ _ _ (Oper.mk _ (Op.call _) _ _ _ (_) :: _) _ _; first | refine s_callG 70 [15] rfl rfl rfl rfl rfl rfl rfl rfl rfl (c99k ds (listF a names) p.2.2.2.2 _ _ hi8 (by have := congrArg List.length hi4; simp only [List.length_map] at this; omega) rfl (by rw [List.take_of_length_le (by omega), hi4])) rfl rfl rfl ?_ | fail) | refine okops_nil ?_ | refine s_plain tabOk rfl rfl rfl rfl rfl ?_ | (show OkOps _ _ _ (Oper.mk _ (Op.binOp .add _ _ _ _) _ _ _ (_) :: _) _ _; first | refine s_e envOk rfl rfl rfl (step3_add rfl rfl rfl rfl (wrap64 (by omega) (by omega))) ?_ | fail) | (show OkOps _ _ _ (Oper.mk _ (Op.indexAddr _ _ _) _ _ _ (_) :: _) _ _; first | refine s_e envOk rfl rfl rfl (step3_idx rfl rfl rfl rfl rfl (by first | omega | ((try simp only [decide_eq_true_eq, decide_eq_false_iff_not, Bool.not_eq_true', Bool.not_true, Bool.not_false, List.length_map, List.length_set, bne_iff_ne, ne_eq, beq_iff_eq, bne_eq_false_iff_eq, beq_eq_false_iff_ne] at *); omega)) (at_map (by first | omega | ((try simp only [decide_eq_true_eq, decide_eq_false_iff_not, Bool.not_eq_true', Bool.not_true, Bool.not_false, List.length_map, List.length_set, bne_iff_ne, ne_eq, beq_iff_eq, bne_eq_false_iff_eq, beq_eq_false_iff_ne] at *); omega)))) ?_ | fail) | (show OkOps _ _ _ (Oper.mk _ (Op.call _) _ _ _ (_) :: _) _ _; first | refine s_callF rfl rfl rfl rfl rfl rfl rfl rfl (c111 _ (hn4 _)) rfl ?_ | fail) | (show OkOps _ _ _ (Oper.mk _ (Op.alloc _) _ _ _ (_) :: _) _ _; first | refine s_alloc tabOk 2 rfl rfl rfl rfl rfl ?_ | refine s_alloc tabOk 3 rfl rfl rfl rfl rfl ?_ | refine s_alloc tabOk 4 rfl rfl rfl rfl rfl ?_ | fail) | refine s_store envOk rfl rfl rfl ?_ | refine s_new envOk 4 rfl rfl rfl rfl rfl rfl ?_ | fail) | (show OkC _ _ _ _ _; first | (show OkC _ _ (Code.region 49 _ _) _ _; refine okc_imp (imp_sealL (dl := [10]) rfl) ?_) | refine ok_seq ?_ | refine ok_region ?_ | refine ok_block ?_ | refine ok_skip ?_ | refine ok_ret ?_ | refine ok_exit ?_ | refine ok_condT rfl ?_ | refine ok_condF rfl ?_ | refine ok_cond rfl (fun h => ?_) (fun h => ?_) | refine ok_regionD progOk.mo ?_ | refine s_loopN 38 rfl (imp_adoptJ 3 1 10 (k := 4) (b := 40) rfl rfl (by kernel_rfl)) [(1, _), (3, _), (8, _), (10, _), (11, _), (12, _), (23, _), (24, _), (26, _), (27, _), (29, _), (129, _), (130, _), (131, _), (146, _), (147, _)] (subL_cons rfl (subL_cons rfl (subL_cons rfl (subL_cons rfl (subL_cons rfl (subL_cons rfl (subL_cons rfl (subL_cons rfl (subL_cons rfl (subL_cons rfl (subL_cons rfl (subL_cons rfl (subL_cons rfl (subL_cons rfl (subL_cons rfl (subL_cons rfl subL_nil)))))))))))))))) (fun (bN : Bool × Bool) (r : Nat × List (List D)) => [(148, .one (.d (.int .i64 (r.1 : Int))))]) (fun (bN : Bool × Bool) (r : Nat × List (List D)) => [(3, .box [.d (encInts (numsF (fromF a ds) (at_ a.cells p.1))), .own (nmA bN) r.1]), ((nmA bN), .row 4 40 r.2), (2, .box [.d (encInts (at_ a.cells p.1).at'), .d (encVals (at_ a.cells p.1).vals)]), (15, .row 2 48 p.2.2.1), (14, .map true false (encM (fun i => .int .i64 (i : Int)) p.2.2.2.1 0)), (0, .box [.d (encDims a.dims), .d (encAttrs a.attrs), .d (encCells a.cells)]), (1, .box [.d .nil, .d .nil, .d .nil])]) (fun (r : Nat × List (List D)) => r.1 ≤ (keptF a names).length ∧ r.2 = ((keptF a names).take r.1).map (fun s => encVal (ofS s (at_ a.cells p.1)))) (fun (r : Nat × List (List D)) => (keptF a names).length - r.1) (0, []) (subL_cons rfl subL_nil) (by first | exact subL_nil | exact (subL_cons rfl subL_nil) | exact (subL_cons rfl (subL_cons rfl subL_nil)) | exact (subL_cons rfl (subL_cons rfl (subL_cons rfl subL_nil))) | exact (subL_cons rfl (subL_cons rfl (subL_cons rfl (subL_cons rfl subL_nil)))) | exact (subL_cons rfl (subL_cons rfl (subL_cons rfl (subL_cons rfl (subL_cons rfl subL_nil))))) | exact (subL_cons rfl (subL_cons rfl (subL_cons rfl (subL_cons rfl (subL_cons rfl (subL_cons rfl subL_nil)))))) | exact (subL_cons rfl (subL_cons rfl (subL_cons rfl (subL_cons rfl (subL_cons rfl (subL_cons rfl (subL_cons rfl subL_nil))))))) | exact (subL_cons rfl (subL_cons rfl (subL_cons rfl (subL_cons rfl (subL_cons rfl (subL_cons rfl (subL_cons rfl (subL_cons rfl subL_nil))))))))) (fun b y => by obtain ⟨b1, b2⟩ := b; cases b1 <;> cases b2 <;> first | exact Imp.refl _ | exact imp_ren qN (by kernel_rfl)) ?_ (fun r ⟨hr1, hr2⟩ => ?_) | refine s_loopN 32 rfl (imp_adopt (s := 24) (id := 15) (k := 2) (b := 48) rfl rfl rfl rfl) [(1, _), (3, _), (8, _), (10, _), (11, _), (12, _), (23, _), (129, _), (130, _)] (subL_cons rfl (subL_cons rfl (subL_cons rfl (subL_cons rfl (subL_cons rfl (subL_cons rfl (subL_cons rfl (subL_cons rfl (subL_cons rfl subL_nil))))))))) (fun (bN : Bool × Bool) (p : Nat × Nat × List (List D) × List (List Int) × List Cell) => [(24, .one (.own 15 p.2.1)), (131, .one (.d (.int .i64 (p.1 : Int))))]) (fun (bN : Bool × Bool) (p : Nat × Nat × List (List D) × List (List Int) × List Cell) => [(15, .row 2 48 p.2.2.1), (14, .map true false (encM (fun i => .int .i64 (i : Int)) p.2.2.2.1 0)), (0, .box [.d (encDims a.dims), .d (encAttrs a.attrs), .d (encCells a.cells)]), (1, .box [.d .nil, .d .nil, .d .nil])]) (fun (p : Nat × Nat × List (List D) × List (List Int) × List Cell) => p.1 ≤ a.cells.length ∧ p.2.1 = p.2.2.1.length ∧ p.2.1 ≤ p.1 ∧ p.2.2.1 = p.2.2.2.2.map encCell ∧ p.2.2.2.1 = p.2.2.2.2.map Cell.at' ∧ (∀ k ∈ p.2.2.2.1, k.length = ds.length) ∧ p.2.2.2.1.length = p.2.1 ∧ p.2.2.2.2.Pairwise diffC ∧ redGo (fromF a ds) (keptF a names) ds rule [] a.cells = redGo (fromF a ds) (keptF a names) ds rule p.2.2.2.2 (a.cells.drop p.1)) (fun (p : Nat × Nat × List (List D) × List (List Int) × List Cell) => a.cells.length - p.1) (0, 0, [], [], []) (subL_cons rfl (subL_cons rfl subL_nil)) (by first | exact subL_nil | exact (subL_cons rfl subL_nil) | exact (subL_cons rfl (subL_cons rfl subL_nil)) | exact (subL_cons rfl (subL_cons rfl (subL_cons rfl subL_nil))) | exact (subL_cons rfl (subL_cons rfl (subL_cons rfl (subL_cons rfl subL_nil)))) | exact (subL_cons rfl (subL_cons rfl (subL_cons rfl (subL_cons rfl (subL_cons rfl subL_nil))))) | exact (subL_cons rfl (subL_cons rfl (subL_cons rfl (subL_cons rfl (subL_cons rfl (subL_cons rfl subL_nil)))))) | exact (subL_cons rfl (subL_cons rfl (subL_cons rfl (subL_cons rfl (subL_cons rfl (subL_cons rfl (subL_cons rfl subL_nil))))))) | exact (subL_cons rfl (subL_cons rfl (subL_cons rfl (subL_cons rfl (subL_cons rfl (subL_cons rfl (subL_cons rfl (subL_cons rfl subL_nil))))))))) (fun b y => by obtain ⟨b1, b2⟩ := b; cases b1 <;> cases b2 <;> first | exact Imp.refl _ | exact imp_ren qN (by kernel_rfl)) ?_ (fun p ⟨hi1, hi2, hi3, hi4, hi5, hi6, hi7, hi8, hi9⟩ => ?_) | fail) | (show thenQ _ _ _ _; first | refine then_n ?_ | refine then_r ?_ | refine then_x ?_ | fail) | (show blockQ _ _ _ _; first | refine block_n ?_ | refine block_r ?_ | refine block_x rfl ?_ | fail) | (show RetQ _ _ _ _ _ _; first | refine ret_leaf (.inl rfl) rfl rfl ?_ | fail) | (show DRun _ _ _ _ _ _ _ _; first | (show DRun _ _ _ _ (Oper.mk _ (Op.call _) _ _ _ (_) :: _) _ _ _; first | refine d_l rfl rfl (loc_callF' rfl rfl rfl rfl rfl rfl (c110 (at_ (keptF a names) (r.1 : Int).toNat) (at_ a.cells (p.1 : Int).toNat) (hks _ _ (by first | omega | ((try simp only [decide_eq_true_eq, decide_eq_false_iff_not, Bool.not_eq_true', Bool.not_true, Bool.not_false, List.length_map, List.length_set, bne_iff_ne, ne_eq, beq_iff_eq, bne_eq_false_iff_eq, beq_eq_false_iff_ne] at *); omega)) (by first | omega | ((try simp only [decide_eq_true_eq, decide_eq_false_iff_not, Bool.not_eq_true', Bool.not_true, Bool.not_false, List.length_map, List.length_set, bne_iff_ne, ne_eq, beq_iff_eq, bne_eq_false_iff_eq, beq_eq_false_iff_ne] at *); omega)))) rfl) ?_ | fail) | (show DRun _ _ _ _ (Oper.mk _ (Op.call _) _ _ _ (_) :: _) _ _ _; first | refine d_new envOk 11 rfl rfl rfl (step3_appendB (i := 10) rfl rfl rfl rfl rfl rfl rfl rfl (by first | omega | ((try simp only [decide_eq_true_eq, decide_eq_false_iff_not, List.length_map, List.length_cons, List.length_nil, List.length_append, Int.toNat_natCast] at *); omega)) (by first | exact Nat.le_of_ble_eq_true rfl | omega | ((try simp only [decide_eq_true_eq, decide_eq_false_iff_not, List.length_map, List.length_cons, List.length_nil, List.length_append, Int.toNat_natCast] at *); omega)) (Nat.le_of_ble_eq_true rfl)) rfl rfl ?_ | fail) | refine d_nil (by kernel_rfl) ?_ | refine d_e envOk rfl rfl rfl (step3_plain rfl rfl) ?_ | refine d_new envOk 5 rfl rfl rfl rfl rfl rfl ?_ | refine d_store envOk rfl rfl rfl ?_ | fail) | (show Exists _; first | refine Exists.intro ((p.1 + 1, p.2.1 + 1, p.2.2.1.take p.2.1 ++ [[encInts (numsF (fromF a ds) (at_ a.cells p.1)), .sl 4 40 (List.take r.1 r.2)]], p.2.2.2.1 ++ [numsF (fromF a ds) (at_ a.cells p.1)], p.2.2.2.2 ++ [nextF (keptF a names) (numsF (fromF a ds) (at_ a.cells p.1)) (at_ a.cells p.1)])) (Exists.intro (false, false) ⟨?_, ?_, (by first | exact subL_nil | exact (subL_cons rfl subL_nil) | exact (subL_cons rfl (subL_cons rfl subL_nil)) | exact (subL_cons rfl (subL_cons rfl (subL_cons rfl subL_nil))) | exact (subL_cons rfl (subL_cons rfl (subL_cons rfl (subL_cons rfl subL_nil)))) | exact (subL_cons rfl (subL_cons rfl (subL_cons rfl (subL_cons rfl (subL_cons rfl subL_nil))))) | exact (subL_cons rfl (subL_cons rfl (subL_cons rfl (subL_cons rfl (subL_cons rfl (subL_cons rfl subL_nil)))))) | exact (subL_cons rfl (subL_cons rfl (subL_cons rfl (subL_cons rfl (subL_cons rfl (subL_cons rfl (subL_cons rfl subL_nil))))))) | exact (subL_cons rfl (subL_cons rfl (subL_cons rfl (subL_cons rfl (subL_cons rfl (subL_cons rfl (subL_cons rfl (subL_cons rfl subL_nil))))))))), (subL_cons rfl (subL_cons rfl subL_nil)), (subL_cons rfl (subL_cons rfl (subL_cons rfl (subL_cons rfl (subL_cons rfl (subL_cons rfl (subL_cons rfl (subL_cons rfl (subL_cons rfl subL_nil)))))))))⟩) | refine Exists.intro ((p.1 + 1, p.2.1, p.2.2.1.set j [encInts (numsF (fromF a ds) (at_ a.cells p.1)), .sl 4 40 (List.take r.1 r.2)], p.2.2.2.1, p.2.2.2.2.set j (nextF (keptF a names) (numsF (fromF a ds) (at_ a.cells p.1)) (at_ a.cells p.1)))) (Exists.intro (false, false) ⟨?_, ?_, (by first | exact subL_nil | exact (subL_cons rfl subL_nil) | exact (subL_cons rfl (subL_cons rfl subL_nil)) | exact (subL_cons rfl (subL_cons rfl (subL_cons rfl subL_nil))) | exact (subL_cons rfl (subL_cons rfl (subL_cons rfl (subL_cons rfl subL_nil)))) | exact (subL_cons rfl (subL_cons rfl (subL_cons rfl (subL_cons rfl (subL_cons rfl subL_nil))))) | exact (subL_cons rfl (subL_cons rfl (subL_cons rfl (subL_cons rfl (subL_cons rfl (subL_cons rfl subL_nil)))))) | exact (subL_cons rfl (subL_cons rfl (subL_cons rfl (subL_cons rfl (subL_cons rfl (subL_cons rfl (subL_cons rfl subL_nil))))))) | exact (subL_cons rfl (subL_cons rfl (subL_cons rfl (subL_cons rfl (subL_cons rfl (subL_cons rfl (subL_cons rfl (subL_cons rfl subL_nil))))))))), (subL_cons rfl (subL_cons rfl subL_nil)), (subL_cons rfl (subL_cons rfl (subL_cons rfl (subL_cons rfl (subL_cons rfl (subL_cons rfl (subL_cons rfl (subL_cons rfl (subL_cons rfl subL_nil)))))))))⟩) | refine Exists.intro ((p.1 + 1, p.2)) (Exists.intro (false, false) ⟨?_, ?_, (by first | exact subL_nil | exact (subL_cons rfl subL_nil) | exact (subL_cons rfl (subL_cons rfl subL_nil)) | exact (subL_cons rfl (subL_cons rfl (subL_cons rfl subL_nil))) | exact (subL_cons rfl (subL_cons rfl (subL_cons rfl (subL_cons rfl subL_nil)))) | exact (subL_cons rfl (subL_cons rfl (subL_cons rfl (subL_cons rfl (subL_cons rfl subL_nil))))) | exact (subL_cons rfl (subL_cons rfl (subL_cons rfl (subL_cons rfl (subL_cons rfl (subL_cons rfl subL_nil)))))) | exact (subL_cons rfl (subL_cons rfl (subL_cons rfl (subL_cons rfl (subL_cons rfl (subL_cons rfl (subL_cons rfl subL_nil))))))) | exact (subL_cons rfl (subL_cons rfl (subL_cons rfl (subL_cons rfl (subL_cons rfl (subL_cons rfl (subL_cons rfl (subL_cons rfl subL_nil))))))))), (subL_cons rfl (subL_cons rfl subL_nil)), (subL_cons rfl (subL_cons rfl (subL_cons rfl (subL_cons rfl (subL_cons rfl (subL_cons rfl (subL_cons rfl (subL_cons rfl (subL_cons rfl subL_nil)))))))))⟩) | refine Exists.intro ((r.1 + 1, r.2.take r.1 ++ [encVal (ofS (at_ (keptF a names) r.1) (at_ a.cells p.1))])) (Exists.intro (true, false) ⟨?_, ?_, (by first | exact subL_nil | exact (subL_cons rfl subL_nil) | exact (subL_cons rfl (subL_cons rfl subL_nil)) | exact (subL_cons rfl (subL_cons rfl (subL_cons rfl subL_nil))) | exact (subL_cons rfl (subL_cons rfl (subL_cons rfl (subL_cons rfl subL_nil)))) | exact (subL_cons rfl (subL_cons rfl (subL_cons rfl (subL_cons rfl (subL_cons rfl subL_nil))))) | exact (subL_cons rfl (subL_cons rfl (subL_cons rfl (subL_cons rfl (subL_cons rfl (subL_cons rfl subL_nil)))))) | exact (subL_cons rfl (subL_cons rfl (subL_cons rfl (subL_cons rfl (subL_cons rfl (subL_cons rfl (subL_cons rfl subL_nil))))))) | exact (subL_cons rfl (subL_cons rfl (subL_cons rfl (subL_cons rfl (subL_cons rfl (subL_cons rfl (subL_cons rfl (subL_cons rfl subL_nil))))))))), (subL_cons rfl subL_nil), (subL_cons rfl (subL_cons rfl (subL_cons rfl (subL_cons rfl (subL_cons rfl (subL_cons rfl (subL_cons rfl (subL_cons rfl (subL_cons rfl (subL_cons rfl (subL_cons rfl (subL_cons rfl (subL_cons rfl (subL_cons rfl (subL_cons rfl (subL_cons rfl subL_nil))))))))))))))))⟩) | fail) | fail)
  · exact ⟨Nat.zero_le _, rfl, Nat.le_refl _, rfl, rfl, (fun k hk => by cases hk), rfl, .nil, rfl⟩
  · have hlt : p.1 < a.cells.length := by simpa using ‹decide ((p.1 : Int) < ((a.cells.map encCell).length : Int)) = true›
    have hmk' : ((fromF a ds).all fun s => (ofS s (at_ a.cells p.1)).kind == 2) = true := hmk
    refine ⟨hlt, hi2, Nat.le_succ_of_le hi3, hi4, hi5, hi6, hi7, hi8, ?_⟩
    rw [hi9, at_drop hlt]
    exact go_step (red_skip (moved_out hmk' h))
  · have hlt : p.1 < a.cells.length := by simpa using ‹decide ((p.1 : Int) < ((a.cells.map encCell).length : Int)) = true›
    show a.cells.length - (p.1 + 1) < a.cells.length - p.1
    omega
  · exact ⟨Nat.zero_le _, rfl⟩
  · have hlr : r.1 < (keptF a names).length := by simpa using h
    exact ⟨hlr, row_app (fun s => encVal (ofS s (at_ a.cells p.1))) (keptF a names) hr2 hlr⟩
  · have hlr : r.1 < (keptF a names).length := by simpa using h
    show (keptF a names).length - (r.1 + 1) < (keptF a names).length - r.1
    omega
  · have hlt : p.1 < a.cells.length := by simpa using ‹decide ((p.1 : Int) < ((a.cells.map encCell).length : Int)) = true›
    have hmk' : ((fromF a ds).all fun s => (ofS s (at_ a.cells p.1)).kind == 2) = true := hmk
    have hw : (!withinL ds (numsF (fromF a ds) (at_ a.cells p.1))) = false := by assumption
    have hmv := moved_in hmk' hw
    have hrn : r.1 = (keptF a names).length := by
      have : (keptF a names).length ≤ r.1 := by simpa using ‹decide ((r.1 : Int) < (((keptF a names).map encSrc).length : Int)) = false›
      omega
    have hV : List.take r.1 r.2 = ((keptF a names).map fun s => ofS s (at_ a.cells p.1)).map encVal := by
      rw [List.take_of_length_le (by rw [hr2]; simp; omega), hr2, hrn, List.take_length, List.map_map]; rfl
    have hE : [encInts (numsF (fromF a ds) (at_ a.cells p.1)), D.sl 4 40 (List.take r.1 r.2)] = encCell (nextF (keptF a names) (numsF (fromF a ds) (at_ a.cells p.1)) (at_ a.cells p.1)) := by
      rw [hV]; rfl
    have hwk' : whereK (numsF (fromF a ds) (at_ a.cells p.1)) (p.2.2.2.2.map Cell.at') 0 = none := by rw [← hi5]; exact hwk
    have hstep := red_new (kept := keptF a names) (rule := rule) hmv (hasAt_w0 hwk')
    refine ⟨hlt, ?_, Nat.succ_le_succ hi3, ?_, ?_, fun k hk => ?_, ?_, step_diff hstep hi8, ?_⟩
    · show p.2.1 + 1 = (p.2.2.1.take p.2.1 ++ [_]).length
      rw [List.length_append, List.length_take]; simp [hi2]
    · show p.2.2.1.take p.2.1 ++ [_] = (p.2.2.2.2 ++ [_]).map encCell
      rw [List.take_of_length_le (by omega), hi4, List.map_append, hE]; rfl
    · show p.2.2.2.1 ++ [_] = (p.2.2.2.2 ++ [_]).map Cell.at'
      rw [List.map_append, ← hi5]; rfl
    · rcases List.mem_append.1 hk with h5 | h5
      · exact hi6 k h5
      · rw [List.mem_singleton.1 h5]; exact hnl _
    · show (p.2.2.2.1 ++ [_]).length = p.2.1 + 1
      rw [List.length_append, hi7]; rfl
    · rw [hi9, at_drop hlt]; exact go_step hstep
  · have hlt : p.1 < a.cells.length := by simpa using ‹decide ((p.1 : Int) < ((a.cells.map encCell).length : Int)) = true›
    show a.cells.length - (p.1 + 1) < a.cells.length - p.1
    omega
  · have hlt : p.1 < a.cells.length := by simpa using ‹decide ((p.1 : Int) < ((a.cells.map encCell).length : Int)) = true›
    have hmk' : ((fromF a ds).all fun s => (ofS s (at_ a.cells p.1)).kind == 2) = true := hmk
    have hw : (!withinL ds (numsF (fromF a ds) (at_ a.cells p.1))) = false := by assumption
    have hmv := moved_in hmk' hw
    have hrn : r.1 = (keptF a names).length := by
      have : (keptF a names).length ≤ r.1 := by simpa using ‹decide ((r.1 : Int) < (((keptF a names).map encSrc).length : Int)) = false›
      omega
    have hV : List.take r.1 r.2 = ((keptF a names).map fun s => ofS s (at_ a.cells p.1)).map encVal := by
      rw [List.take_of_length_le (by rw [hr2]; simp; omega), hr2, hrn, List.take_length, List.map_map]; rfl
    have hE : [encInts (numsF (fromF a ds) (at_ a.cells p.1)), D.sl 4 40 (List.take r.1 r.2)] = encCell (nextF (keptF a names) (numsF (fromF a ds) (at_ a.cells p.1)) (at_ a.cells p.1)) := by
      rw [hV]; rfl
    have hwk' : whereK (numsF (fromF a ds) (at_ a.cells p.1)) (p.2.2.2.2.map Cell.at') 0 = some j := by rw [← hi5]; exact hwk
    have hj := hasAt_w1 hwk'
    have hg : redGo (fromF a ds) (keptF a names) ds rule [] a.cells = none := by
      rw [hi9, at_drop hlt]; exact go_stop (red_old1 hmv hj (by simpa using h))
    rw [redF_none hc h1 h3 hre hg]
    rfl
  · have hlt : p.1 < a.cells.length := by simpa using ‹decide ((p.1 : Int) < ((a.cells.map encCell).length : Int)) = true›
    have hmk' : ((fromF a ds).all fun s => (ofS s (at_ a.cells p.1)).kind == 2) = true := hmk
    have hw : (!withinL ds (numsF (fromF a ds) (at_ a.cells p.1))) = false := by assumption
    have hmv := moved_in hmk' hw
    have hrn : r.1 = (keptF a names).length := by
      have : (keptF a names).length ≤ r.1 := by simpa using ‹decide ((r.1 : Int) < (((keptF a names).map encSrc).length : Int)) = false›
      omega
    have hV : List.take r.1 r.2 = ((keptF a names).map fun s => ofS s (at_ a.cells p.1)).map encVal := by
      rw [List.take_of_length_le (by rw [hr2]; simp; omega), hr2, hrn, List.take_length, List.map_map]; rfl
    have hE : [encInts (numsF (fromF a ds) (at_ a.cells p.1)), D.sl 4 40 (List.take r.1 r.2)] = encCell (nextF (keptF a names) (numsF (fromF a ds) (at_ a.cells p.1)) (at_ a.cells p.1)) := by
      rw [hV]; rfl
    have hwk' : whereK (numsF (fromF a ds) (at_ a.cells p.1)) (p.2.2.2.2.map Cell.at') 0 = some j := by rw [← hi5]; exact hwk
    have hj := hasAt_w1 hwk'
    have hstep := red_old3 (kept := keptF a names) (rule := rule) hmv hj (by simpa using h)
    obtain ⟨k, hk1, hk2, hk3⟩ := hasAt_some (at' := numsF (fromF a ds) (at_ a.cells p.1)) (cs := p.2.2.2.2) (by omega)
    have hkj : k = j := by omega
    subst hkj
    refine ⟨hlt, ?_, Nat.le_succ_of_le hi3, ?_, ?_, hi6, hi7, step_diff hstep hi8, ?_⟩
    · show p.2.1 = (p.2.2.1.set k _).length
      rw [List.length_set]; exact hi2
    · show p.2.2.1.set k _ = (p.2.2.2.2.set k _).map encCell
      rw [List.map_set, ← hi4, hE]
    · show p.2.2.2.1 = (p.2.2.2.2.set k _).map Cell.at'
      rw [keys_set hk2 hk3, hi5]
    · rw [hi9, at_drop hlt]; exact go_step hstep
  · have hlt : p.1 < a.cells.length := by simpa using ‹decide ((p.1 : Int) < ((a.cells.map encCell).length : Int)) = true›
    show a.cells.length - (p.1 + 1) < a.cells.length - p.1
    omega
  · have hlt : p.1 < a.cells.length := by simpa using ‹decide ((p.1 : Int) < ((a.cells.map encCell).length : Int)) = true›
    have hmk' : ((fromF a ds).all fun s => (ofS s (at_ a.cells p.1)).kind == 2) = true := hmk
    have hw : (!withinL ds (numsF (fromF a ds) (at_ a.cells p.1))) = false := by assumption
    have hmv := moved_in hmk' hw
    have hrn : r.1 = (keptF a names).length := by
      have : (keptF a names).length ≤ r.1 := by simpa using ‹decide ((r.1 : Int) < (((keptF a names).map encSrc).length : Int)) = false›
      omega
    have hV : List.take r.1 r.2 = ((keptF a names).map fun s => ofS s (at_ a.cells p.1)).map encVal := by
      rw [List.take_of_length_le (by rw [hr2]; simp; omega), hr2, hrn, List.take_length, List.map_map]; rfl
    have hE : [encInts (numsF (fromF a ds) (at_ a.cells p.1)), D.sl 4 40 (List.take r.1 r.2)] = encCell (nextF (keptF a names) (numsF (fromF a ds) (at_ a.cells p.1)) (at_ a.cells p.1)) := by
      rw [hV]; rfl
    have hwk' : whereK (numsF (fromF a ds) (at_ a.cells p.1)) (p.2.2.2.2.map Cell.at') 0 = some j := by rw [← hi5]; exact hwk
    have hj := hasAt_w1 hwk'
    refine ⟨hlt, hi2, Nat.le_succ_of_le hi3, hi4, hi5, hi6, hi7, hi8, ?_⟩
    rw [hi9, at_drop hlt]
    exact go_step (red_old2 hmv hj (by simpa using ‹(rule == 1) = false›) (by simpa using h))
  · have hlt : p.1 < a.cells.length := by simpa using ‹decide ((p.1 : Int) < ((a.cells.map encCell).length : Int)) = true›
    show a.cells.length - (p.1 + 1) < a.cells.length - p.1
    omega
  · have hlt : p.1 < a.cells.length := by simpa using ‹decide ((p.1 : Int) < ((a.cells.map encCell).length : Int)) = true›
    refine ⟨hlt, hi2, Nat.le_succ_of_le hi3, hi4, hi5, hi6, hi7, hi8, ?_⟩
    rw [hi9, at_drop hlt]
    exact go_step (red_skip (moved_no hmk))
  · have hlt : p.1 < a.cells.length := by simpa using ‹decide ((p.1 : Int) < ((a.cells.map encCell).length : Int)) = true›
    show a.cells.length - (p.1 + 1) < a.cells.length - p.1
    omega
  · have hpn : p.1 = a.cells.length := by
      have : a.cells.length ≤ p.1 := by simpa using h
      omega
    have hg : redGo (fromF a ds) (keptF a names) ds rule [] a.cells = some p.2.2.2.2 := by rw [hi9, hpn, List.drop_length]; rfl
    have hln : p.2.2.2.2.length ≤ 4096 := by have := congrArg List.length hi4; simp only [List.length_map] at this; omega
    rw [redF_some hc h1 h3 hre hg hln]
    rfl
end Go.Proofs.YtpejdgkaapnekaaGreat
