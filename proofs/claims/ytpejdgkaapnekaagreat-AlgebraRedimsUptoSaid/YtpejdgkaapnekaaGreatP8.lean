import Derived.Test.YtpejdgkaapnekaaGreatP7
import Derived.Test.YtpejdgkaapnekaaGreatP6
set_option linter.unusedVariables false
set_option linter.unusedSimpArgs false
namespace Go.Proofs.YtpejdgkaapnekaaGreat
open Go Go.Abs
attribute [local irreducible] OkOps OkC DRun thenQ blockQ RetQ
set_option maxRecDepth 10000
theorem c118k (ds : List Dim) (name : List UInt8) (k : Nat) (h : dimX ds name = (k : Int)) : CallA Tryz.prog 118 [.one (.d (encDims ds)), .one (.d (.str name))] [] (.one (.d (.int .i64 (k : Int)))) [] := by
  have h1 := c118 ds name
  unfold dimX at h
  rw [h] at h1
  exact h1
theorem c114k (ats : List Attr) (name : List UInt8) (k : Nat) (h : atX ats name = (k : Int)) : CallA Tryz.prog 114 [.one (.d (encAttrs ats)), .one (.d (.str name))] [] (.one (.d (.int .i64 (k : Int)))) [] := by
  have h1 := c114 ats name
  unfold atX at h
  rw [h] at h1
  exact h1
def numAV (s : Int × Bool) (c : Cell) : AV := .tup [(false, [.d (.int .i64 (ofS s c).num)]), (false, [.d (.bool ((ofS s c).kind == 2))])]
theorem c193 (a : Arr) (c : Cell) (name : List UInt8) (hk : ¬ (srcF a.dims a.attrs name).1 < 0) (hs : okS (srcF a.dims a.attrs name) c) : CallA Tryz.prog 193 [aggA a, .agg [.d (encInts c.at'), .d (encVals c.vals)], .one (.d (.str name))] [] (numAV (srcF a.dims a.attrs name) c) [] := by
  unfold aggA
  refine enter tabOk Tryz.func193 rfl (by decide +kernel) rfl fun hok w0 σ0 φ0 M => ?_
  clear hok
  by_cases hd : dimX a.dims name < 0
  · have e : srcF a.dims a.attrs name = (atX a.attrs name, false) := by unfold srcF; rw [if_pos hd]
    rw [e] at hk hs ⊢
    obtain ⟨k, hk1, hk2, _, _⟩ := idxGo_at hk
    have hk3 : atX a.attrs name = (k : Int) := by unfold atX; rw [hk1]; simp
    rw [hk3] at hs ⊢
    have hlt : k < c.vals.length := by have := hs.2.2 rfl; simpa using this
    have hb : decide (0 ≤ idxGo (fun a : Dim => a.name == name) a.dims 0) = false := by
      have h := hd
      unfold dimX at h
      simp; omega
    repeat' (first | (show OkOps _ _ _ _ _ _; first | refine okops_nil ?_ | refine s_plain tabOk rfl rfl rfl rfl rfl ?_ | (show OkOps _ _ _ (Oper.mk _ (Op.call _) _ _ _ (_) :: _) _ _; first | refine s_callF rfl rfl rfl rfl rfl rfl rfl rfl (c118 _ _) rfl ?_ | fail) | (show OkOps _ _ _ (Oper.mk _ (Op.box _ _) _ _ _ (_) :: _) _ _; first | refine s_box 0 rfl rfl rfl rfl rfl rfl ?_ | refine s_box 1 rfl rfl rfl rfl rfl rfl ?_ | fail) | fail) | (show OkC _ _ _ _ _; first | refine ok_seq ?_ | refine ok_region ?_ | refine ok_skip ?_ | refine ok_ret ?_ | refine ok_condKF rfl (by assumption) ?_ | refine ok_regionD progOk.mo ?_ | fail) | (show thenQ _ _ _ _; first | refine then_n ?_ | fail) | (show RetQ _ _ _ _ _ _; first | refine ret_leaf (.inl rfl) rfl rfl ?_ | fail) | (show DRun _ _ _ _ _ _ _ _; first | refine d_nil (by kernel_rfl) ?_ | refine d_e envOk rfl rfl rfl (step3_plain rfl rfl) ?_ | (show DRun _ _ _ _ (Oper.mk _ (Op.indexAddr _ _ _) _ _ _ (_) :: _) _ _ _; first | refine d_e envOk rfl rfl rfl (step3_idx rfl rfl rfl rfl rfl (by omega) (at_map (by omega))) ?_ | fail) | (show DRun _ _ _ _ (Oper.mk _ (Op.call _) _ _ _ (_) :: _) _ _ _; first | refine d_l rfl rfl (loc_callF' rfl rfl rfl rfl rfl rfl (c114k _ _ k hk3) rfl) ?_ | fail) | refine d_new envOk 2 rfl rfl rfl rfl rfl rfl ?_ | refine d_store envOk rfl rfl rfl ?_ | fail) | fail)
    all_goals rfl
  · obtain ⟨k, hk1, hk2, _, _⟩ := dimX_at hd
    have e : srcF a.dims a.attrs name = ((k : Int), true) := by unfold srcF; rw [if_neg hd, hk1]
    rw [e] at hs ⊢
    have hlt : k < c.at'.length := by have := hs.2.1 rfl; simpa using this
    have hb : decide ((0 : Int) ≤ (k : Int)) = true := by simp
    repeat' (first | (show OkOps _ _ _ _ _ _; first | refine okops_nil ?_ | refine s_plain tabOk rfl rfl rfl rfl rfl ?_ | (show OkOps _ _ _ (Oper.mk _ (Op.indexAddr _ _ _) _ _ _ (_) :: _) _ _; first | refine s_e envOk rfl rfl rfl (step3_idx rfl rfl rfl rfl rfl (by omega) (at_map (by omega))) ?_ | fail) | (show OkOps _ _ _ (Oper.mk _ (Op.call _) _ _ _ (_) :: _) _ _; first | refine s_callF rfl rfl rfl rfl rfl rfl rfl rfl (c118k _ _ k hk1) rfl ?_ | fail) | (show OkOps _ _ _ (Oper.mk _ (Op.box _ _) _ _ _ (_) :: _) _ _; first | refine s_box 0 rfl rfl rfl rfl rfl rfl ?_ | refine s_box 1 rfl rfl rfl rfl rfl rfl ?_ | fail) | fail) | (show OkC _ _ _ _ _; first | refine ok_seq ?_ | refine ok_region ?_ | refine ok_ret ?_ | refine ok_condT rfl ?_ | fail) | (show thenQ _ _ _ _; first | refine then_n ?_ | refine then_r ?_ | fail) | (show RetQ _ _ _ _ _ _; first | refine ret_leaf (.inl rfl) rfl rfl ?_ | fail) | fail)
    all_goals rfl
theorem atX_pos {x : Int} (h : decide (0 ≤ x) = true) : 0 ≤ x := by simpa using h
theorem atX_lt {ats : List Attr} {name : List UInt8} (h : decide (0 ≤ idxGo (fun a : Attr => a.name == name) ats 0) = true) : (idxGo (fun a : Attr => a.name == name) ats 0).toNat < ats.length := by
  have h0 := atX_pos h
  obtain ⟨k, h1, h2, _, _⟩ := idxGo_at (p := fun a : Attr => a.name == name) (l := ats) (j := 0) (by omega)
  rw [h1]; simpa using h2
theorem both_no {a : Arr} (hA : OkA a.dims a.attrs a.cells) {name : List UInt8} (h : ¬ dimX a.dims name < 0) : atX a.attrs name < 0 := by
  by_cases h1 : atX a.attrs name < 0
  · exact h1
  · obtain ⟨k, e1, e2, e3, _⟩ := dimX_at h
    obtain ⟨j, f1, f2, f3, _⟩ := idxGo_at h1
    obtain ⟨s1, s2, s3, s4⟩ := schemaF_ok hA.sch
    have hm := (attrsGo_ok s4).1 _ (at_mem f2)
    exact absurd (List.mem_map.2 ⟨_, at_mem e2, e3.trans (by simpa using f3 : (at_ a.attrs j).name = name).symm⟩) hm
theorem srcErr_11 {a : Arr} {d : Dim} {r : List Dim} (h : (!(decide (0 ≤ dimX a.dims d.name) || decide (0 ≤ atX a.attrs d.name))) = true) : srcErr a (d :: r) = 11 := by
  simp only [Bool.not_eq_true', Bool.or_eq_false_iff, decide_eq_false_iff_not] at h
  rw [srcErr, if_pos]
  unfold srcF
  rw [if_pos (by omega)]
  show atX a.attrs d.name < 0
  omega
theorem srcErr_at {a : Arr} (hA : OkA a.dims a.attrs a.cells) {d : Dim} {r : List Dim} (h : decide (0 ≤ idxGo (fun x : Attr => x.name == d.name) a.attrs 0) = true) :
    srcErr a (d :: r) = if ((at_ a.attrs (idxGo (fun x : Attr => x.name == d.name) a.attrs 0).toNat).type != 2) = true then 12 else srcErr a r := by
  have h0 : 0 ≤ atX a.attrs d.name := atX_pos h
  have hd : dimX a.dims d.name < 0 := by
    by_cases hd : dimX a.dims d.name < 0
    · exact hd
    · have := both_no hA hd; omega
  have e : srcF a.dims a.attrs d.name = (atX a.attrs d.name, false) := by unfold srcF; rw [if_pos hd]
  rw [srcErr, e, if_neg (show ¬ atX a.attrs d.name < 0 by omega)]
  rfl
theorem srcErr_dim {a : Arr} {d : Dim} {r : List Dim} (h1 : (!(decide (0 ≤ dimX a.dims d.name) || decide (0 ≤ atX a.attrs d.name))) = false) (h2 : decide (0 ≤ idxGo (fun x : Attr => x.name == d.name) a.attrs 0) = false) : srcErr a (d :: r) = srcErr a r := by
  have h0 : ¬ 0 ≤ atX a.attrs d.name := of_decide_eq_false h2
  have hd : ¬ dimX a.dims d.name < 0 := by
    intro hd
    simp only [Bool.not_eq_false', Bool.or_eq_true, decide_eq_true_eq] at h1
    omega
  have e : srcF a.dims a.attrs d.name = (dimX a.dims d.name, true) := by unfold srcF; rw [if_neg hd]
  rw [srcErr, e, if_neg hd]
  rfl
theorem c112 (a : Arr) (hA : OkA a.dims a.attrs a.cells) (ds : List Dim) : CallA Tryz.prog 112 [aggA a, .one (.d (encDims ds))] [] (.one (.d (.int .i64 (srcErr a ds)))) [] := by
  unfold aggA
  refine enter tabOk Tryz.func112 rfl (by decide +kernel) rfl fun hok w0 σ0 φ0 M => ?_
  have h1 := hok.2.1.sl; clear hok; simp only [List.length_map] at h1; replace h1 := h1.1
  repeat' (first | (show OkOps _ _ _ _ _ _; first | (show OkOps _ _ _ (Oper.mk _ (Op.indexAddr _ _ _) _ _ _ (_) :: _) _ _; first | refine s_e envOk rfl rfl rfl (step3_idx rfl rfl rfl rfl rfl (atX_pos (by assumption)) (at_map (atX_lt (by assumption)))) ?_ | fail) | refine okops_nil ?_ | refine s_plain tabOk rfl rfl rfl rfl rfl ?_ | (show OkOps _ _ _ (Oper.mk _ (_) _ _ _ (some _) :: _) _ _; first | refine s_guard rfl rfl (by first | assumption | rfl) ?_ | refine s_out rfl rfl (by first | assumption | rfl) rfl rfl ?_ | refine s_split rfl rfl rfl rfl (fun h => ?_) (fun h => ?_) | fail) | (show OkOps _ _ _ (Oper.mk _ (Op.binOp .add _ _ _ _) _ _ _ (_) :: _) _ _; first | refine s_e envOk rfl rfl rfl (step3_add rfl rfl rfl rfl (wrap64 (by omega) (by omega))) ?_ | fail) | (show OkOps _ _ _ (Oper.mk _ (Op.pick _ _ _) _ _ _ (_) :: _) _ _; first | refine s_e envOk rfl rfl rfl (step3_pickT rfl rfl (by first | rfl | assumption) rfl) ?_ | refine s_e envOk rfl rfl rfl (step3_pickF rfl rfl (by first | rfl | assumption) rfl) ?_ | fail) | (show OkOps _ _ _ (Oper.mk _ (Op.box _ _) _ _ _ (_) :: _) _ _; first | refine s_box 0 rfl rfl rfl rfl rfl rfl ?_ | fail) | fail) | (show OkC _ _ _ _ _; first | refine ok_seq ?_ | refine ok_region ?_ | refine ok_block ?_ | refine ok_skip ?_ | refine ok_ret ?_ | refine ok_exit ?_ | refine ok_condF rfl ?_ | refine ok_cond rfl (fun h => ?_) (fun h => ?_) | refine ok_regionD progOk.mo ?_ | refine s_loopM 2 rfl [(1, _), (2, _)] (subL_cons rfl (subL_cons rfl subL_nil)) (fun (k : Nat) => [(5, .one (.d (.int .i64 (k : Int))))]) (fun (k : Nat) => [(0, .box [.d (encDims a.dims), .d (encAttrs a.attrs), .d (encCells a.cells)])]) (fun (k : Nat) => k ≤ ds.length ∧ srcErr a ds = srcErr a (ds.drop k)) (fun (k : Nat) => ds.length - k) 0 (subL_cons rfl subL_nil) (by first | exact subL_nil | exact (subL_cons rfl subL_nil) | exact (subL_cons rfl (subL_cons rfl subL_nil)) | exact (subL_cons rfl (subL_cons rfl (subL_cons rfl subL_nil))) | exact (subL_cons rfl (subL_cons rfl (subL_cons rfl (subL_cons rfl subL_nil)))) | exact (subL_cons rfl (subL_cons rfl (subL_cons rfl (subL_cons rfl (subL_cons rfl subL_nil))))) | exact (subL_cons rfl (subL_cons rfl (subL_cons rfl (subL_cons rfl (subL_cons rfl (subL_cons rfl subL_nil)))))) | exact (subL_cons rfl (subL_cons rfl (subL_cons rfl (subL_cons rfl (subL_cons rfl (subL_cons rfl (subL_cons rfl subL_nil))))))) | exact (subL_cons rfl (subL_cons rfl (subL_cons rfl (subL_cons rfl (subL_cons rfl (subL_cons rfl (subL_cons rfl (subL_cons rfl subL_nil))))))))) ?_ (fun k ⟨hk, hs⟩ => ?_) | fail) | (show thenQ _ _ _ _; first | refine then_n ?_ | refine then_r ?_ | refine then_x ?_ | fail) | (show blockQ _ _ _ _; first | refine block_n ?_ | refine block_r ?_ | refine block_x rfl ?_ | fail) | (show RetQ _ _ _ _ _ _; first | refine ret_leaf (.inl rfl) rfl rfl ?_ | fail) | (show DRun _ _ _ _ _ _ _ _; first | refine d_nil (by kernel_rfl) ?_ | refine d_e envOk rfl rfl rfl (step3_plain rfl rfl) ?_ | (show DRun _ _ _ _ (Oper.mk _ (Op.indexAddr _ _ _) _ _ _ (_) :: _) _ _ _; first | refine d_e envOk rfl rfl rfl (step3_idx rfl rfl rfl rfl rfl (by first | omega | ((try simp only [decide_eq_true_eq, decide_eq_false_iff_not, Bool.not_eq_true', Bool.not_true, Bool.not_false, List.length_map, List.length_set, bne_iff_ne, ne_eq, beq_iff_eq, bne_eq_false_iff_eq, beq_eq_false_iff_ne] at *); omega)) (at_map (by first | omega | ((try simp only [decide_eq_true_eq, decide_eq_false_iff_not, Bool.not_eq_true', Bool.not_true, Bool.not_false, List.length_map, List.length_set, bne_iff_ne, ne_eq, beq_iff_eq, bne_eq_false_iff_eq, beq_eq_false_iff_ne] at *); omega)))) ?_ | fail) | (show DRun _ _ _ _ (Oper.mk _ (Op.call _) _ _ _ (_) :: _) _ _ _; first | refine d_l rfl rfl (loc_callF' rfl rfl rfl rfl rfl rfl (c113 _ _ _ _) rfl) ?_ | refine d_l rfl rfl (loc_callF' rfl rfl rfl rfl rfl rfl (c114 _ _) rfl) ?_ | fail) | fail) | (show Exists _; first | refine Exists.intro (k + 1) ⟨?_, ?_, (by first | exact subL_nil | exact (subL_cons rfl subL_nil) | exact (subL_cons rfl (subL_cons rfl subL_nil)) | exact (subL_cons rfl (subL_cons rfl (subL_cons rfl subL_nil))) | exact (subL_cons rfl (subL_cons rfl (subL_cons rfl (subL_cons rfl subL_nil)))) | exact (subL_cons rfl (subL_cons rfl (subL_cons rfl (subL_cons rfl (subL_cons rfl subL_nil))))) | exact (subL_cons rfl (subL_cons rfl (subL_cons rfl (subL_cons rfl (subL_cons rfl (subL_cons rfl subL_nil)))))) | exact (subL_cons rfl (subL_cons rfl (subL_cons rfl (subL_cons rfl (subL_cons rfl (subL_cons rfl (subL_cons rfl subL_nil))))))) | exact (subL_cons rfl (subL_cons rfl (subL_cons rfl (subL_cons rfl (subL_cons rfl (subL_cons rfl (subL_cons rfl (subL_cons rfl subL_nil))))))))), (subL_cons rfl subL_nil), (subL_cons rfl (subL_cons rfl subL_nil))⟩ | fail) | fail)
  · exact ⟨Nat.zero_le _, by rw [List.drop_zero]⟩
  all_goals (try rw [Int.toNat_natCast] at *)
  · have hlt : k < ds.length := by simpa using ‹decide ((k : Int) < ((List.map encDim ds).length : Int)) = true›
    rw [hs, at_drop hlt, srcErr_11 h]
  · have hlt : k < ds.length := by simpa using ‹decide ((k : Int) < ((List.map encDim ds).length : Int)) = true›
    rw [hs, at_drop hlt, srcErr_at hA (by assumption), if_pos h]
  · have hlt : k < ds.length := by simpa using ‹decide ((k : Int) < ((List.map encDim ds).length : Int)) = true›
    exact ⟨hlt, by rw [hs, at_drop hlt, srcErr_at hA (by assumption), if_neg (by rw [h]; simp)]⟩
  · have hlt : k < ds.length := by simpa using ‹decide ((k : Int) < ((List.map encDim ds).length : Int)) = true›
    omega
  · have hlt : k < ds.length := by simpa using ‹decide ((k : Int) < ((List.map encDim ds).length : Int)) = true›
    exact ⟨hlt, by rw [hs, at_drop hlt, srcErr_dim (by assumption) h]⟩
  · have hlt : k < ds.length := by simpa using ‹decide ((k : Int) < ((List.map encDim ds).length : Int)) = true›
    omega
  · have hge : ¬ k < ds.length := by simpa using h
    rw [hs, List.drop_eq_nil_of_le (by omega)]; rfl
end Go.Proofs.YtpejdgkaapnekaaGreat
namespace Go.Proofs.YtpejdgkaapnekaaGreat
open Go Go.Abs
attribute [local irreducible] OkOps OkC DRun thenQ blockQ RetQ
set_option maxRecDepth 10000
theorem c100e (ds : List Dim) (at' : List Int) (ys : List (List D)) (hy : ys = at'.map encInt) (hl : at'.length = ds.length) : CallA Tryz.prog 100 [.one (.d (encDims ds)), .one (.d (.sl 1 8 ys))] [] (.one (.d (.bool (withinL ds at')))) [] := by
  subst hy
  have h := c100 ds at'
  have e : ofF ds at' = withinL ds at' := by simp [ofF, hl]
  rw [e] at h
  exact h
theorem c116 (a : Arr) (c : Cell) (ds : List Dim) (h4 : ds.length ≤ 1000) (hsk : ∀ i, i < ds.length → ¬ (srcF a.dims a.attrs (at_ ds i).name).1 < 0) (hso : ∀ i, i < ds.length → okS (srcF a.dims a.attrs (at_ ds i).name) c) : CallA Tryz.prog 116 [aggA a, .agg [.d (encInts c.at'), .d (encVals c.vals)], .one (.d (encDims ds))] [] (movedAV (fromF a ds) ds c) [] := by
  unfold aggA
  refine enter tabOk Tryz.func116 rfl (by decide +kernel) rfl fun hok w0 σ0 φ0 M => ?_
  clear hok
  have hnl : (numsF (fromF a ds) c).length = ds.length := by simp [numsF, fromF]
  repeat' (first | (show OkOps _ _ _ _ _ _; first | (show OkOps _ _ _ (Oper.mk _ (Op.call _) _ _ _ (_) :: _) _ _; first | refine s_callFS [10] rfl rfl rfl rfl rfl rfl rfl rfl rfl (c100e ds (numsF (fromF a ds) c) _ (by rw [hp2, List.take_of_length_le (by simp; omega), List.take_of_length_le (by first | omega | ((try simp only [decide_eq_true_eq, decide_eq_false_iff_not, Bool.not_eq_true', Bool.not_true, Bool.not_false, List.length_map, List.length_set, bne_iff_ne, ne_eq, beq_iff_eq, bne_eq_false_iff_eq, beq_eq_false_iff_ne] at *); omega))]; simp [numsF, fromF]) hnl) rfl ?_ | fail) | refine okops_nil ?_ | refine s_plain tabOk rfl rfl rfl rfl rfl ?_ | (show OkOps _ _ _ (Oper.mk _ (Op.call _) _ _ _ (_) :: _) _ _; first | refine s_append tabOk rfl rfl rfl rfl rfl rfl rfl rfl rfl rfl rfl rfl rfl (by first | omega | ((try simp only [decide_eq_true_eq, decide_eq_false_iff_not, List.length_map, List.length_cons, List.length_nil, List.length_append, List.length_take, List.length_drop, Int.toNat_natCast] at *); omega)) (by first | exact Nat.le_of_ble_eq_true rfl | omega | ((try simp only [decide_eq_true_eq, decide_eq_false_iff_not, List.length_map, List.length_cons, List.length_nil, List.length_append, List.length_take, List.length_drop, Int.toNat_natCast] at *); omega)) (Nat.le_of_ble_eq_true rfl) ?_ | fail) | (show OkOps _ _ _ (Oper.mk _ (Op.binOp .add _ _ _ _) _ _ _ (_) :: _) _ _; first | refine s_e envOk rfl rfl rfl (step3_add rfl rfl rfl rfl (wrap64 (by omega) (by omega))) ?_ | fail) | (show OkOps _ _ _ (Oper.mk _ (Op.box _ _) _ _ _ (_) :: _) _ _; first | refine s_box 0 rfl rfl rfl rfl rfl rfl ?_ | refine s_box 1 rfl rfl rfl rfl rfl rfl ?_ | fail) | refine s_new envOk 2 rfl rfl rfl rfl rfl rfl ?_ | fail) | (show OkC _ _ _ _ _; first | refine okc_imp (imp_sealL (dl := [10]) rfl) (ok_ret ?_) | refine ok_seq ?_ | refine ok_region ?_ | refine ok_block ?_ | refine ok_skip ?_ | refine ok_exit ?_ | refine ok_cond rfl (fun h => ?_) (fun h => ?_) | refine ok_regionD progOk.mo ?_ | refine s_loopN 3 rfl (imp_adopt (s := 8) (id := 10) (k := 1) (b := 8) rfl rfl rfl rfl) [(2, _), (3, _), (4, _)] (subL_cons rfl (subL_cons rfl (subL_cons rfl subL_nil))) (fun (bN : Bool × Bool) (p : Nat × List (List D)) => [(8, .one (.own 10 p.1)), (9, .one (.d (.int .i64 (p.1 : Int))))]) (fun (bN : Bool × Bool) (p : Nat × List (List D)) => [(10, .row 1 8 p.2), (0, .box [.d (encDims a.dims), .d (encAttrs a.attrs), .d (encCells a.cells)]), (1, .box [.d (encInts c.at'), .d (encVals c.vals)])]) (fun (p : Nat × List (List D)) => p.1 ≤ ds.length ∧ p.2 = (ds.take p.1).map (fun d => encInt (ofS (srcF a.dims a.attrs d.name) c).num) ∧ (∀ i, i < p.1 → (ofS (srcF a.dims a.attrs (at_ ds i).name) c).kind = 2)) (fun (p : Nat × List (List D)) => ds.length - p.1) (0, []) (subL_cons rfl (subL_cons rfl subL_nil)) (by first | exact subL_nil | exact (subL_cons rfl subL_nil) | exact (subL_cons rfl (subL_cons rfl subL_nil)) | exact (subL_cons rfl (subL_cons rfl (subL_cons rfl subL_nil))) | exact (subL_cons rfl (subL_cons rfl (subL_cons rfl (subL_cons rfl subL_nil)))) | exact (subL_cons rfl (subL_cons rfl (subL_cons rfl (subL_cons rfl (subL_cons rfl subL_nil))))) | exact (subL_cons rfl (subL_cons rfl (subL_cons rfl (subL_cons rfl (subL_cons rfl (subL_cons rfl subL_nil)))))) | exact (subL_cons rfl (subL_cons rfl (subL_cons rfl (subL_cons rfl (subL_cons rfl (subL_cons rfl (subL_cons rfl subL_nil))))))) | exact (subL_cons rfl (subL_cons rfl (subL_cons rfl (subL_cons rfl (subL_cons rfl (subL_cons rfl (subL_cons rfl (subL_cons rfl subL_nil))))))))) (fun b y => by obtain ⟨b1, b2⟩ := b; cases b1 <;> cases b2 <;> first | exact Imp.refl _ | exact imp_ren qN (by kernel_rfl)) ?_ (fun p ⟨hp1, hp2, hp3⟩ => ?_) | fail) | (show thenQ _ _ _ _; first | refine then_n ?_ | refine then_r ?_ | refine then_x ?_ | fail) | (show blockQ _ _ _ _; first | refine block_n ?_ | refine block_r ?_ | refine block_x rfl ?_ | fail) | (show RetQ _ _ _ _ _ _; first | refine ret_leaf (.inl rfl) rfl rfl ?_ | fail) | (show DRun _ _ _ _ _ _ _ _; first | (show DRun _ _ _ _ (Oper.mk _ (Op.call _) _ _ _ (_) :: _) _ _ _; first | refine d_l rfl rfl (loc_callF' rfl rfl rfl rfl rfl rfl (c193 a c _ (hsk _ (by first | omega | ((try simp only [decide_eq_true_eq, decide_eq_false_iff_not, Bool.not_eq_true', Bool.not_true, Bool.not_false, List.length_map, List.length_set, bne_iff_ne, ne_eq, beq_iff_eq, bne_eq_false_iff_eq, beq_eq_false_iff_ne] at *); omega))) (hso _ (by first | omega | ((try simp only [decide_eq_true_eq, decide_eq_false_iff_not, Bool.not_eq_true', Bool.not_true, Bool.not_false, List.length_map, List.length_set, bne_iff_ne, ne_eq, beq_iff_eq, bne_eq_false_iff_eq, beq_eq_false_iff_ne] at *); omega)))) rfl) ?_ | fail) | refine d_nil (by kernel_rfl) ?_ | refine d_e envOk rfl rfl rfl (step3_plain rfl rfl) ?_ | (show DRun _ _ _ _ (Oper.mk _ (Op.indexAddr _ _ _) _ _ _ (_) :: _) _ _ _; first | refine d_e envOk rfl rfl rfl (step3_idx rfl rfl rfl rfl rfl (by first | omega | ((try simp only [decide_eq_true_eq, decide_eq_false_iff_not, Bool.not_eq_true', Bool.not_true, Bool.not_false, List.length_map, List.length_set, bne_iff_ne, ne_eq, beq_iff_eq, bne_eq_false_iff_eq, beq_eq_false_iff_ne] at *); omega)) (at_map (by first | omega | ((try simp only [decide_eq_true_eq, decide_eq_false_iff_not, Bool.not_eq_true', Bool.not_true, Bool.not_false, List.length_map, List.length_set, bne_iff_ne, ne_eq, beq_iff_eq, bne_eq_false_iff_eq, beq_eq_false_iff_ne] at *); omega)))) ?_ | fail) | fail) | (show Exists _; first | refine Exists.intro ((p.1 + 1, p.2.take p.1 ++ [encInt (ofS (srcF a.dims a.attrs (at_ ds p.1).name) c).num])) (Exists.intro (false, false) ⟨?_, ?_, (by first | exact subL_nil | exact (subL_cons rfl subL_nil) | exact (subL_cons rfl (subL_cons rfl subL_nil)) | exact (subL_cons rfl (subL_cons rfl (subL_cons rfl subL_nil))) | exact (subL_cons rfl (subL_cons rfl (subL_cons rfl (subL_cons rfl subL_nil)))) | exact (subL_cons rfl (subL_cons rfl (subL_cons rfl (subL_cons rfl (subL_cons rfl subL_nil))))) | exact (subL_cons rfl (subL_cons rfl (subL_cons rfl (subL_cons rfl (subL_cons rfl (subL_cons rfl subL_nil)))))) | exact (subL_cons rfl (subL_cons rfl (subL_cons rfl (subL_cons rfl (subL_cons rfl (subL_cons rfl (subL_cons rfl subL_nil))))))) | exact (subL_cons rfl (subL_cons rfl (subL_cons rfl (subL_cons rfl (subL_cons rfl (subL_cons rfl (subL_cons rfl (subL_cons rfl subL_nil))))))))), (subL_cons rfl (subL_cons rfl subL_nil)), (subL_cons rfl (subL_cons rfl (subL_cons rfl subL_nil)))⟩) | fail) | fail)
  · exact ⟨Nat.zero_le _, rfl, fun i hi => absurd hi (Nat.not_lt_zero _)⟩
  all_goals (try rw [Int.toNat_natCast] at *)
  · have hlt : p.1 < ds.length := by simpa using ‹decide ((p.1 : Int) < ((List.map encDim ds).length : Int)) = true›
    have hkd : ¬ ((fromF a ds).all (fun s => (ofS s c).kind == 2)) = true := by
      intro hall
      rw [List.all_eq_true] at hall
      have h2 := hall (srcF a.dims a.attrs (at_ ds p.1).name) (List.mem_map.2 ⟨_, at_mem hlt, rfl⟩)
      rw [h2] at h
      exact absurd h (by simp)
    unfold movedAV
    rw [if_neg hkd]
    rfl
  · have hlt : p.1 < ds.length := by simpa using ‹decide ((p.1 : Int) < ((List.map encDim ds).length : Int)) = true›
    refine ⟨hlt, ?_, fun i hi => ?_⟩
    · show p.2.take p.1 ++ [_] = (ds.take (p.1 + 1)).map _
      have hl : p.2.length = p.1 := by rw [hp2]; simp; omega
      rw [at_take hlt, List.map_append, ← hp2, List.take_of_length_le (by omega)]; rfl
    · rcases Nat.lt_or_ge i p.1 with h5 | h5
      · exact hp3 i h5
      · have : i = p.1 := by have : i < p.1 + 1 := hi; omega
        rw [this]; simpa using h
  · have hlt : p.1 < ds.length := by simpa using ‹decide ((p.1 : Int) < ((List.map encDim ds).length : Int)) = true›
    show ds.length - (p.1 + 1) < ds.length - p.1
    omega
  · have hpn : p.1 = ds.length := by
      have : ¬ p.1 < ds.length := by simpa using h
      omega
    have hkd : ((fromF a ds).all (fun s => (ofS s c).kind == 2)) = true := by
      rw [List.all_eq_true]
      intro s hs'
      obtain ⟨d, hd, rfl⟩ := List.mem_map.1 hs'
      obtain ⟨i, hi, rfl⟩ := at_ofmem hd
      rw [hp3 i (by omega)]; rfl
    unfold movedAV
    rw [if_pos hkd]
    show AV.tup [(false, [.d (.sl 1 8 (p.2.take p.1))]), (false, [.d (.bool (withinL ds (numsF (fromF a ds) c)))])] = _
    have e : p.2.take p.1 = (numsF (fromF a ds) c).map encInt := by
      have hl : p.2.length = p.1 := by rw [hp2]; simp; omega
      rw [List.take_of_length_le (by omega), hp2, List.take_of_length_le (by omega)]
      simp [numsF, fromF]
    rw [e]; rfl
end Go.Proofs.YtpejdgkaapnekaaGreat
namespace Go.Proofs.YtpejdgkaapnekaaGreat
open Go Go.Abs
attribute [local irreducible] OkOps OkC DRun thenQ blockQ RetQ
set_option maxRecDepth 10000
theorem half_take {l : List Cell} {h : Int} (hh : h.toNat = l.length / 2) : List.take h.toNat (List.map encCell l) = (l.take (l.length / 2)).map encCell := by rw [hh, List.map_take]
theorem half_drop {l : List Cell} {h : Int} (hh : h.toNat = l.length / 2) : List.drop h.toNat (List.map encCell l) = (l.drop (l.length / 2)).map encCell := by rw [hh, List.map_drop]
theorem sort_len {l : List Cell} : (sortF l).length = l.length := (sortF_perm l).length_eq
theorem seal_own0 {k b n : Nat} {xs ys : List (List D)} (he : xs.take n = ys) : AV.one (sealC 0 (.row k b xs) (.own 0 n)) = .one (.d (.sl k b ys)) := by subst he; rfl
theorem c184n (n : Nat) (ih : ∀ (ys : List (List D)) (l : List Cell), ys = l.map encCell → l.length < n → l.Pairwise diffC → l.length ≤ 4096 → CallA Tryz.prog 184 [.one (.d (.sl 2 48 ys))] [] (.one (.d (encCells (sortF l)))) [])
    (l : List Cell) (hn : l.length = n) (hd : l.Pairwise diffC) (hl : l.length ≤ 4096) : CallA Tryz.prog 184 [.one (.d (.sl 2 48 (l.map encCell)))] [] (.one (.d (encCells (sortF l)))) [] := by
  have hd1 : (l.take (l.length / 2)).Pairwise diffC := hd.sublist (List.take_sublist _ _)
  have hd2 : (l.drop (l.length / 2)).Pairwise diffC := hd.sublist (List.drop_sublist _ _)
  have e2 : ((((l.map encCell).length : Nat) : Int) / 2).toNat = l.length / 2 := by rw [List.length_map]; omega
  have hm1 : (l.take (l.length / 2)).length ≤ 4096 := by rw [List.length_take]; omega
  have hm2 : (l.drop (l.length / 2)).length ≤ 4096 := by rw [List.length_drop]; omega
  have hl3 : (sortF (l.take (l.length / 2))).length + (sortF (l.drop (l.length / 2))).length ≤ 4096 := by rw [sort_len, sort_len, List.length_take, List.length_drop]; omega
  refine enter tabOk Tryz.func184 rfl (by decide +kernel) rfl fun hok w0 σ0 φ0 M => ?_
  clear hok
  rcases Nat.lt_or_ge l.length 2 with h2 | h2
  · have hb : decide (((List.map encCell l).length : Int) < 2) = true := by simp; omega
    repeat' (first | (show OkOps _ _ _ _ _ _; first | refine okops_nil ?_ | (show OkOps _ _ _ (Oper.mk _ (Op.call _) _ _ _ (_) :: _) _ _; first | refine s_append tabOk rfl rfl rfl rfl rfl rfl rfl rfl rfl rfl rfl rfl rfl (by first | omega | ((try simp only [decide_eq_true_eq, decide_eq_false_iff_not, List.length_map, List.length_cons, List.length_nil, List.length_append, List.length_take, List.length_drop, Int.toNat_natCast] at *); omega)) (by first | exact Nat.le_of_ble_eq_true rfl | omega | ((try simp only [decide_eq_true_eq, decide_eq_false_iff_not, List.length_map, List.length_cons, List.length_nil, List.length_append, List.length_take, List.length_drop, Int.toNat_natCast] at *); omega)) (Nat.le_of_ble_eq_true rfl) ?_ | fail) | refine s_plain tabOk rfl rfl rfl rfl rfl ?_ | refine s_new envOk 0 rfl rfl rfl rfl rfl rfl ?_ | fail) | (show OkC _ _ _ _ _; first | refine okc_imp (imp_sealL (dl := [0]) rfl) (ok_ret ?_) | refine ok_seq ?_ | refine ok_region ?_ | refine ok_condKT rfl (by assumption) ?_ | fail) | (show thenQ _ _ _ _; first | refine then_n ?_ | refine then_r ?_ | fail) | (show RetQ _ _ _ _ _ _; first | refine ret_leaf (.inl rfl) rfl rfl ?_ | fail) | fail)
    refine seal_own0 ?_
    rw [sort_short h2, List.take_zero, List.nil_append, Nat.zero_add, List.take_length]
  · have hb : decide (((List.map encCell l).length : Int) < 2) = false := by simp; omega
    have hl1 : (l.take (l.length / 2)).length < n := by rw [List.length_take]; omega
    have hl2 : (l.drop (l.length / 2)).length < n := by rw [List.length_drop]; omega
    repeat' (first | (show OkOps _ _ _ _ _ _; first | refine okops_nil ?_ | refine s_plain tabOk rfl rfl rfl rfl rfl ?_ | (show OkOps _ _ _ (Oper.mk _ (Op.binOp .quo _ _ _ _) _ _ _ (_) :: _) _ _; first | refine s_e envOk rfl rfl rfl (step3_quoE rfl rfl rfl rfl (by omega) (by omega) (wrap64 (by omega) (by omega))) ?_ | fail) | fail) | (show OkC _ _ _ _ _; first | refine ok_seq ?_ | refine ok_region ?_ | refine ok_skip ?_ | refine ok_ret ?_ | refine ok_condKF rfl (by assumption) ?_ | refine ok_regionD progOk.mo ?_ | fail) | (show thenQ _ _ _ _; first | refine then_n ?_ | fail) | (show RetQ _ _ _ _ _ _; first | refine ret_leaf (.inl rfl) rfl rfl ?_ | fail) | (show DRun _ _ _ _ _ _ _ _; first | (show DRun _ _ _ _ (Oper.mk _ (Op.slice _ _ none _ _) _ _ _ (_) :: _) _ _ _; first | refine d_e envOk rfl rfl rfl (step3_sliceDHi rfl rfl rfl rfl rfl (by simp; omega) (by simp; omega)) ?_ | fail) | (show DRun _ _ _ _ (Oper.mk _ (Op.slice _ _ _ none _) _ _ _ (_) :: _) _ _ _; first | refine d_e envOk rfl rfl rfl (step3_sliceDLo rfl rfl rfl rfl rfl (by simp; omega) (by simp; omega)) ?_ | fail) | (show DRun _ _ _ _ (Oper.mk _ (Op.call _) _ _ _ (_) :: _) _ _ _; first | refine d_callD 16 rfl rfl rfl rfl rfl rfl rfl rfl (ih _ (l.take (l.length / 2)) (half_take e2) hl1 hd1 hm1) rfl rfl ?_ | fail) | (show DRun _ _ _ _ (Oper.mk _ (Op.call _) _ _ _ (_) :: _) _ _ _; first | refine d_callD 16 rfl rfl rfl rfl rfl rfl rfl rfl (ih _ (l.drop (l.length / 2)) (half_drop e2) hl2 hd2 hm2) rfl rfl ?_ | fail) | (show DRun _ _ _ _ (Oper.mk _ (Op.call _) _ _ _ (_) :: _) _ _ _; first | refine d_callD 16 rfl rfl rfl rfl rfl rfl rfl rfl (c232 _ _ hl3) rfl rfl ?_ | fail) | refine d_nil (by kernel_rfl) ?_ | refine d_e envOk rfl rfl rfl (step3_plain rfl rfl) ?_ | fail) | fail)
    rw [merge_sort hd]; rfl
theorem c184e : ∀ (n : Nat) (ys : List (List D)) (l : List Cell), ys = l.map encCell → l.length < n → l.Pairwise diffC → l.length ≤ 4096 → CallA Tryz.prog 184 [.one (.d (.sl 2 48 ys))] [] (.one (.d (encCells (sortF l)))) []
  | 0, _, _, _, h, _, _ => absurd h (Nat.not_lt_zero _)
  | n + 1, ys, l, hy, h, hd, hl => by
    subst hy
    exact c184n l.length (fun ys' l' hy' h' hd' hl' => c184e n ys' l' hy' (by omega) hd' hl') l rfl hd hl
theorem c184 (l : List Cell) (hd : l.Pairwise diffC) (hl : l.length ≤ 4096) : CallA Tryz.prog 184 [.one (.d (encCells l))] [] (.one (.d (encCells (sortF l)))) [] := c184e (l.length + 1) _ l rfl (Nat.lt_succ_self _) hd hl
end Go.Proofs.YtpejdgkaapnekaaGreat
namespace Go.Proofs.YtpejdgkaapnekaaGreat
open Go Go.Abs
attribute [local irreducible] OkOps OkC DRun thenQ blockQ RetQ
set_option maxRecDepth 10000
def smallC (c : Cell) : Prop := c.at'.length ≤ 1048576 ∧ c.vals.length ≤ 1048576
theorem small_of {ds : List Dim} {ats : List Attr} {l : List Cell} (h1 : ds.length ≤ 1048576) (h2 : ats.length ≤ 1048576) (h3 : ∀ c ∈ l, smallC c) (h4 : l.length ≤ 4096) : smallA ⟨ds, ats, sortF l⟩ := by
  have hn : (sortF l).length ≤ 4096 := by rw [sort_len]; exact h4
  exact ⟨h1, h2, by show (sortF l).length ≤ _; omega, fun k hk => h3 _ ((sortF_perm l).mem_iff.1 (at_mem hk))⟩
theorem c101 (ds : List Dim) (ats : List Attr) (l : List Cell) (hd : l.Pairwise diffC) (h1 : ds.length ≤ 1048576) (h2 : ats.length ≤ 1048576) (h3 : ∀ c ∈ l, smallC c) : CallA Tryz.prog 101 [.one (.d (encDims ds)), .one (.d (encAttrs ats)), .one (.d (encCells l))] [] (arrE (resF ds ats l)) [] := by
  refine enter tabOk Tryz.func101 rfl (by decide +kernel) rfl fun hok w0 σ0 φ0 M => ?_
  clear hok
  by_cases h4 : 4096 < (l.length : Int)
  · have hb : decide (4096 < ((l.map encCell).length : Int)) = true := by simpa using h4
    simp only [resF, if_pos h4, arrE]
    repeat' (first | (show OkOps _ _ _ _ _ _; first | refine okops_nil ?_ | refine s_plain tabOk rfl rfl rfl rfl rfl ?_ | (show OkOps _ _ _ (Oper.mk _ (Op.alloc _) _ _ _ (_) :: _) _ _; first | refine s_alloc tabOk 0 rfl rfl rfl rfl rfl ?_ | fail) | refine s_store envOk rfl rfl rfl ?_ | fail) | (show OkC _ _ _ _ _; first | refine ok_seq ?_ | refine ok_region ?_ | refine ok_ret ?_ | refine ok_condKT rfl (by assumption) ?_ | fail) | (show thenQ _ _ _ _; first | refine then_n ?_ | refine then_r ?_ | fail) | (show RetQ _ _ _ _ _ _; first | refine ret_leaf (.inl rfl) rfl rfl ?_ | fail) | fail)
    all_goals rfl
  · have hb : decide (4096 < ((l.map encCell).length : Int)) = false := by simpa using h4
    have hl : l.length ≤ 4096 := by omega
    have hsm := small_of h1 h2 h3 hl
    simp only [resF, if_neg h4, arrE]
    repeat' (first | (show OkOps _ _ _ _ _ _; first | refine okops_nil ?_ | refine s_plain tabOk rfl rfl rfl rfl rfl ?_ | (show OkOps _ _ _ (Oper.mk _ (Op.call _) _ _ _ (_) :: _) _ _; first | refine s_callD 16 rfl rfl rfl rfl rfl rfl rfl rfl (c184 _ hd hl) rfl rfl rfl ?_ | refine s_callD 16 rfl rfl rfl rfl rfl rfl rfl rfl (c22 ⟨ds, ats, sortF l⟩ hsm) rfl rfl rfl ?_ | fail) | (show OkOps _ _ _ (Oper.mk _ (Op.alloc _) _ _ _ (_) :: _) _ _; first | refine s_alloc tabOk 0 rfl rfl rfl rfl rfl ?_ | fail) | refine s_store envOk rfl rfl rfl ?_ | fail) | (show OkC _ _ _ _ _; first | refine ok_seq ?_ | refine ok_region ?_ | refine ok_skip ?_ | refine ok_ret ?_ | refine ok_condKF rfl (by assumption) ?_ | fail) | (show thenQ _ _ _ _; first | refine then_n ?_ | fail) | (show RetQ _ _ _ _ _ _; first | refine ret_leaf (.inl rfl) rfl rfl ?_ | fail) | fail)
    all_goals rfl
end Go.Proofs.YtpejdgkaapnekaaGreat
namespace Go.Proofs.YtpejdgkaapnekaaGreat
open Go Go.Abs
attribute [local irreducible] OkOps OkC DRun thenQ blockQ RetQ
set_option maxRecDepth 10000
def encDig (n : Int) : List D := [.int .u32 n]
def encDigs (l : List Int) : D := .sl 1 4 (l.map encDig)
def digs (z : Int) : List Int := if z = 0 then [] else if z < 1000000000 then [z] else [z % 1000000000, z / 1000000000]
theorem c342 (l : List Int) (i : Nat) (h : ∀ x ∈ l, 0 ≤ x ∧ x < 1000000000) : CallA Tryz.prog 342 [.one (.d (encDigs l)), .one (.d (.int .i64 i))] [] (.one (.d (.int .u64 (at_ l i)))) [] := by
  refine enter tabOk Tryz.func342 rfl (by decide +kernel) rfl fun hok w0 σ0 φ0 M => ?_
  clear hok
  have hb : i < l.length → 0 ≤ at_ l i ∧ at_ l i < 1000000000 := fun hi => h _ (at_mem hi)
  repeat' (first | (show OkOps _ _ _ _ _ _; first | refine okops_nil ?_ | refine s_plain tabOk rfl rfl rfl rfl rfl ?_ | (show OkOps _ _ _ (Oper.mk _ (Op.convert _ _ _) _ _ _ (_) :: _) _ _; first | refine s_val tabOk rfl rfl rfl rfl ?_ | fail) | (show OkOps _ _ _ (Oper.mk _ (Op.indexAddr _ _ _) _ _ _ (_) :: _) _ _; first | refine s_e envOk rfl rfl rfl (step3_idx rfl rfl rfl rfl rfl (by first | omega | ((try simp only [decide_eq_true_eq, decide_eq_false_iff_not, Bool.not_eq_true', Bool.not_true, Bool.not_false, List.length_map, List.length_set, bne_iff_ne, ne_eq, beq_iff_eq, bne_eq_false_iff_eq, beq_eq_false_iff_ne] at *); omega)) (at_map (by first | omega | ((try simp only [decide_eq_true_eq, decide_eq_false_iff_not, Bool.not_eq_true', Bool.not_true, Bool.not_false, List.length_map, List.length_set, bne_iff_ne, ne_eq, beq_iff_eq, bne_eq_false_iff_eq, beq_eq_false_iff_ne] at *); omega)))) ?_ | fail) | fail) | (show OkC _ _ _ _ _; first | refine ok_seq ?_ | refine ok_region ?_ | refine ok_skip ?_ | refine ok_ret ?_ | refine ok_cond rfl (fun h => ?_) (fun h => ?_) | fail) | (show thenQ _ _ _ _; first | refine then_n ?_ | refine then_r ?_ | fail) | (show RetQ _ _ _ _ _ _; first | refine ret_leaf (.inl rfl) rfl rfl ?_ | fail) | fail)
  · have hi : i < l.length := by simpa using h
    have := hb hi
    show AV.one (.d (.int .u64 (IntKind.u64.wrap (at_ l i)))) = _
    rw [wrapu64 (by omega) (by omega)]
  · have hi : l.length ≤ i := by simpa using h
    simp [at_, List.getD_eq_getElem?_getD, hi]
theorem c268 (z : Int) (h0 : 0 ≤ z) (h1 : z < 1000000000000000000) : CallA Tryz.prog 268 [.one (.d (.int .u64 z))] [] (.one (.d (encDigs (digs z)))) [] := by
  refine enter tabOk Tryz.func268 rfl (by decide +kernel) rfl fun hok w0 σ0 φ0 M => ?_
  clear hok
  repeat' (first | (show OkOps _ _ _ _ _ _; first | refine okops_nil ?_ | refine s_plain tabOk rfl rfl rfl rfl rfl ?_ | (show OkOps _ _ _ (Oper.mk _ (Op.binOp .rem _ _ _ _) _ _ _ (_) :: _) _ _; first | refine s_e envOk rfl rfl rfl (step3_remE rfl rfl rfl rfl (by omega) (by omega)) ?_ | fail) | (show OkOps _ _ _ (Oper.mk _ (Op.binOp .quo _ _ _ _) _ _ _ (_) :: _) _ _; first | refine s_e envOk rfl rfl rfl (step3_quoE rfl rfl rfl rfl (by omega) (by omega) (wrapu64 (by omega) (by omega))) ?_ | fail) | (show OkOps _ _ _ (Oper.mk _ (Op.convert _ _ _) _ _ _ (_) :: _) _ _; first | refine s_e envOk rfl rfl rfl (step3_conv rfl rfl rfl rfl (wrapu32 (by omega) (by omega))) ?_ | fail) | refine s_new envOk 0 rfl rfl rfl rfl rfl rfl ?_ | refine s_new envOk 1 rfl rfl rfl rfl rfl rfl ?_ | refine s_new envOk 2 rfl rfl rfl rfl rfl rfl ?_ | refine s_new envOk 3 rfl rfl rfl rfl rfl rfl ?_ | refine s_new envOk 4 rfl rfl rfl rfl rfl rfl ?_ | refine s_new envOk 5 rfl rfl rfl rfl rfl rfl ?_ | fail) | (show OkC _ _ _ _ _; first | refine okc_imp (imp_sealL (dl := [3]) rfl) (ok_ret ?_) | refine okc_imp (imp_sealL (dl := [1]) rfl) (ok_ret ?_) | refine okc_imp (imp_nil (s := 2) (k := 1) (b := 4) rfl) (ok_ret ?_) | refine ok_seq ?_ | refine ok_region ?_ | refine ok_block ?_ | refine ok_skip ?_ | refine ok_exit ?_ | refine ok_cond rfl (fun h => ?_) (fun h => ?_) | refine ok_rounds 2 rfl 3 ?_ | fail) | (show thenQ _ _ _ _; first | refine then_n ?_ | refine then_x ?_ | fail) | (show blockQ _ _ _ _; first | refine block_n ?_ | refine block_x rfl ?_ | fail) | (show RetQ _ _ _ _ _ _; first | refine ret_leaf (.inl rfl) rfl rfl ?_ | fail) | fail)
  all_goals (try simp only [decide_eq_true_eq, decide_eq_false_iff_not] at *)
  · omega
  · have e : digs z = [z % 1000000000, z / 1000000000 % 1000000000] := by
      have : z / 1000000000 % 1000000000 = z / 1000000000 := by omega
      rw [this]; unfold digs; rw [if_neg (by omega), if_neg (by omega)]
    rw [e]; rfl
  · have e : digs z = [z % 1000000000] := by
      have : z % 1000000000 = z := by omega
      rw [this]; unfold digs; rw [if_neg (by omega), if_pos (by omega)]
    rw [e]; rfl
  · have e : digs z = [] := by unfold digs; rw [if_pos (by omega)]
    rw [e]; rfl
end Go.Proofs.YtpejdgkaapnekaaGreat
namespace Go.Proofs.YtpejdgkaapnekaaGreat
open Go Go.Abs
attribute [local irreducible] OkOps OkC DRun thenQ blockQ RetQ
set_option maxRecDepth 10000
theorem digs_mem {z : Int} (h0 : 0 ≤ z) (h1 : z < 1000000000000000000) : ∀ x ∈ digs z, 0 ≤ x ∧ x < 1000000000 := by
  intro x hx
  unfold digs at hx
  split at hx
  · simp at hx
  · split at hx
    · simp at hx; omega
    · simp at hx; omega
theorem digs_at {z : Int} (h0 : 0 ≤ z) (h1 : z < 1000000000000000000) : at_ (digs z) 0 + 1000000000 * at_ (digs z) 1 = z ∧ 0 ≤ at_ (digs z) 0 ∧ at_ (digs z) 0 < 1000000000 ∧ 0 ≤ at_ (digs z) 1 ∧ at_ (digs z) 1 < 1000000000 := by
  unfold digs
  split
  · rename_i h; subst h; exact ⟨rfl, by decide, by decide, by decide, by decide⟩
  · split
    · show z + 1000000000 * 0 = z ∧ 0 ≤ z ∧ z < 1000000000 ∧ (0 : Int) ≤ 0 ∧ (0 : Int) < 1000000000
      omega
    · show z % 1000000000 + 1000000000 * (z / 1000000000) = z ∧ 0 ≤ z % 1000000000 ∧ z % 1000000000 < 1000000000 ∧ 0 ≤ z / 1000000000 ∧ z / 1000000000 < 1000000000
      omega
theorem digs_len {z : Int} : (digs z).length ≤ 2 := by
  unfold digs
  split
  · simp
  · split <;> simp
theorem digs_pos {z : Int} : 0 < (digs z).length ↔ z ≠ 0 := by
  unfold digs
  split
  · simp_all
  · split <;> simp_all
theorem c343 (z : Int) (h0 : 0 ≤ z) (h1 : z < 1000000000000000000) : CallA Tryz.prog 343 [.one (.d (encDigs (digs z)))] [] (.one (.d (.int .u64 z))) [] := by
  refine enter tabOk Tryz.func343 rfl (by decide +kernel) rfl fun hok w0 σ0 φ0 M => ?_
  clear hok
  have hm := digs_mem h0 h1
  obtain ⟨he, ha, hb, hc, hd⟩ := digs_at h0 h1
  repeat' (first | (show OkOps _ _ _ _ _ _; first | refine okops_nil ?_ | refine s_plain tabOk rfl rfl rfl rfl rfl ?_ | (show OkOps _ _ _ (Oper.mk _ (Op.binOp .add _ _ _ _) _ _ _ (_) :: _) _ _; first | refine s_e envOk rfl rfl rfl (step3_add rfl rfl rfl rfl (wrapu64 (by omega) (by omega))) ?_ | fail) | (show OkOps _ _ _ (Oper.mk _ (Op.binOp .mul _ _ _ _) _ _ _ (_) :: _) _ _; first | refine s_e envOk rfl rfl rfl (step3_mul rfl rfl rfl rfl (wrapu64 (by omega) (by omega))) ?_ | fail) | (show OkOps _ _ _ (Oper.mk _ (Op.call _) _ _ _ (_) :: _) _ _; first | refine s_callF rfl rfl rfl rfl rfl rfl rfl rfl (c342 _ 0 hm) rfl ?_ | refine s_callF rfl rfl rfl rfl rfl rfl rfl rfl (c342 _ 1 hm) rfl ?_ | fail) | fail) | (show OkC _ _ _ _ _; first | refine ok_seq ?_ | refine ok_region ?_ | refine ok_ret ?_ | fail) | (show thenQ _ _ _ _; first | refine then_n ?_ | fail) | (show RetQ _ _ _ _ _ _; first | refine ret_leaf (.inl rfl) rfl rfl ?_ | fail) | fail)
  all_goals (rw [he])
theorem wrap_neg {n : Int} (h0 : -1099511627776 ≤ n) (h : n < 0) : IntKind.u64.wrap (0 - IntKind.u64.wrap n) = -n := by
  simp only [IntKind.wrap, IntKind.signed, IntKind.bits, Bool.false_and, Bool.false_eq_true, if_false]
  omega
theorem c267 (n : Int) (h0 : -1099511627776 ≤ n) (h1 : n ≤ 1099511627776) : CallA Tryz.prog 267 [.one (.d (.int .i64 n))] [] (.one (.d (encDigs (digs (max n (-n)))))) [] := by
  refine enter tabOk Tryz.func267 rfl (by decide +kernel) rfl fun hok w0 σ0 φ0 M => ?_
  clear hok
  repeat' (first | (show OkOps _ _ _ _ _ _; first | refine okops_nil ?_ | refine s_plain tabOk rfl rfl rfl rfl rfl ?_ | (show OkOps _ _ _ (Oper.mk _ (Op.binOp .sub _ _ _ _) _ _ _ (_) :: _) _ _; first | refine s_val tabOk rfl rfl rfl rfl ?_ | fail) | (show OkOps _ _ _ (Oper.mk _ (Op.convert _ _ _) _ _ _ (_) :: _) _ _; first | refine s_e envOk rfl rfl rfl (step3_conv rfl rfl rfl rfl (wrapu64 (by first | omega | ((try simp only [decide_eq_true_eq, decide_eq_false_iff_not, Bool.not_eq_true', Bool.not_true, Bool.not_false, List.length_map, List.length_set, bne_iff_ne, ne_eq, beq_iff_eq, bne_eq_false_iff_eq, beq_eq_false_iff_ne] at *); omega)) (by first | omega | ((try simp only [decide_eq_true_eq, decide_eq_false_iff_not, Bool.not_eq_true', Bool.not_true, Bool.not_false, List.length_map, List.length_set, bne_iff_ne, ne_eq, beq_iff_eq, bne_eq_false_iff_eq, beq_eq_false_iff_ne] at *); omega)))) ?_ | refine s_val tabOk rfl rfl rfl rfl ?_ | fail) | fail) | (show OkC _ _ _ _ _; first | refine ok_seq ?_ | refine ok_region ?_ | refine ok_skip ?_ | refine ok_cond rfl (fun h => ?_) (fun h => ?_) | fail) | (show thenQ _ _ _ _; first | refine then_n ?_ | fail) | fail)
  · have hn : n < 0 := by simpa using h
    rw [wrap_neg h0 hn]
    refine s_callD 16 rfl rfl rfl rfl rfl rfl rfl rfl (c268 (-n) (by omega) (by omega)) rfl rfl (rav' := .one (.d (encDigs (digs (-n))))) rfl ?_
    repeat' (first | (show OkOps _ _ _ _ _ _; first | refine okops_nil ?_ | refine s_plain tabOk rfl rfl rfl rfl rfl ?_ | fail) | (show OkC _ _ _ _ _; first | refine ok_ret ?_ | fail) | (show thenQ _ _ _ _; first | refine then_n ?_ | refine then_r ?_ | fail) | (show RetQ _ _ _ _ _ _; first | refine ret_leaf (.inl rfl) rfl rfl ?_ | fail) | fail)
    rw [show max n (-n) = -n by omega]
  · have hn : 0 ≤ n := by simpa using h
    refine s_callD 16 rfl rfl rfl rfl rfl rfl rfl rfl (c268 n (by omega) (by omega)) rfl rfl (rav' := .one (.d (encDigs (digs n)))) rfl ?_
    repeat' (first | (show OkOps _ _ _ _ _ _; first | refine okops_nil ?_ | refine s_plain tabOk rfl rfl rfl rfl rfl ?_ | fail) | (show OkC _ _ _ _ _; first | refine ok_ret ?_ | fail) | (show thenQ _ _ _ _; first | refine then_n ?_ | fail) | (show RetQ _ _ _ _ _ _; first | refine ret_leaf (.inl rfl) rfl rfl ?_ | fail) | fail)
    rw [show max n (-n) = n by omega]
end Go.Proofs.YtpejdgkaapnekaaGreat
namespace Go.Proofs.YtpejdgkaapnekaaGreat
open Go Go.Abs
attribute [local irreducible] OkOps OkC DRun thenQ blockQ RetQ
set_option maxRecDepth 10000
theorem div_range {x y : Int} (hx : 0 ≤ x) (hx1 : x < 1000000000000000000) (hy : 0 < y) : 0 ≤ x / y ∧ x / y < 1000000000000000000 := by
  refine ⟨Int.ediv_nonneg hx (by omega), ?_⟩
  have h1 := Int.ediv_le_self y hx
  omega
theorem mod_range {x y : Int} (hx : 0 ≤ x) (hx1 : x < 1000000000000000000) (hy : 0 < y) : 0 ≤ x % y ∧ x % y < 1000000000000000000 := by
  refine ⟨Int.emod_nonneg x (by omega), ?_⟩
  have := emod_le_self hx hy
  omega
theorem c287 (x y : Int) (hx : 0 ≤ x) (hx1 : x < 1000000000000000000) (hy : 0 < y) (hy1 : y < 1000000000000000000) : CallA Tryz.prog 287 [.one (.d (encDigs (digs x))), .one (.d (encDigs (digs y)))] [] (.tup [(false, [.d (encDigs (digs (x / y)))]), (false, [.d (encDigs (digs (x % y)))])]) [] := by
  refine enter tabOk Tryz.func287 rfl (by decide +kernel) rfl fun hok w0 σ0 φ0 M => ?_
  clear hok
  have hl1 := digs_len (z := x); have hl2 := digs_len (z := y)
  have hd := div_range hx hx1 hy; have hm := mod_range hx hx1 hy
  repeat' (first | (show OkOps _ _ _ _ _ _; first | refine okops_nil ?_ | refine s_plain tabOk rfl rfl rfl rfl rfl ?_ | (show OkOps _ _ _ (Oper.mk _ (_) _ _ _ (some _) :: _) _ _; first | refine s_guard rfl rfl (by first | assumption | rfl) ?_ | refine s_out rfl rfl (by first | assumption | rfl) rfl rfl ?_ | refine s_split rfl rfl rfl rfl (fun h => ?_) (fun h => ?_) | fail) | (show OkOps _ _ _ (Oper.mk _ (Op.binOp .rem _ _ _ _) _ _ _ (_) :: _) _ _; first | refine s_e envOk rfl rfl rfl (step3_remE rfl rfl rfl rfl (by omega) (by omega)) ?_ | fail) | (show OkOps _ _ _ (Oper.mk _ (Op.binOp .quo _ _ _ _) _ _ _ (_) :: _) _ _; first | refine s_e envOk rfl rfl rfl (step3_quoE rfl rfl rfl rfl (by omega) (by omega) (wrapu64 (by omega) (by omega))) ?_ | fail) | (show OkOps _ _ _ (Oper.mk _ (Op.pick _ _ _) _ _ _ (_) :: _) _ _; first | refine s_e envOk rfl rfl rfl (step3_pickT rfl rfl (by first | rfl | assumption) rfl) ?_ | refine s_e envOk rfl rfl rfl (step3_pickF rfl rfl (by first | rfl | assumption) rfl) ?_ | fail) | (show OkOps _ _ _ (Oper.mk _ (Op.call _) _ _ _ (_) :: _) _ _; first | refine s_callF rfl rfl rfl rfl rfl rfl rfl rfl (c343 x (by omega) (by omega)) rfl ?_ | refine s_callF rfl rfl rfl rfl rfl rfl rfl rfl (c343 y (by omega) (by omega)) rfl ?_ | refine s_callD 16 rfl rfl rfl rfl rfl rfl rfl rfl (c268 (x / y) (by omega) (by omega)) rfl rfl rfl ?_ | refine s_callD 16 rfl rfl rfl rfl rfl rfl rfl rfl (c268 (x % y) (by omega) (by omega)) rfl rfl rfl ?_ | fail) | fail) | (show OkC _ _ _ _ _; first | refine ok_seq ?_ | refine ok_region ?_ | refine ok_skip ?_ | refine ok_ret ?_ | refine ok_condF rfl ?_ | refine ok_cond rfl (fun h => ?_) (fun h => ?_) | fail) | (show thenQ _ _ _ _; first | refine then_n ?_ | refine then_r ?_ | fail) | (show RetQ _ _ _ _ _ _; first | refine ret_leaf (.inl rfl) rfl rfl ?_ | fail) | fail)
  · rfl
  · exfalso; simp at h; omega
  · exfalso; simp at h; omega
theorem digs_zero {z : Int} : (digs z).length = 0 ↔ z = 0 := by
  have := digs_pos (z := z)
  omega
theorem c266 (x y : Int) (hx : 0 ≤ x) (hx1 : x < 1000000000000000000) (hy : 0 ≤ y) (hy1 : y < 1000000000000000000) : CallA Tryz.prog 266 [.one (.d (encDigs (digs x))), .one (.d (encDigs (digs y)))] [] (.one (.d (encDigs (digs (Int.gcd x y))))) [] := by
  refine enter tabOk Tryz.func266 rfl (by decide +kernel) rfl fun hok w0 σ0 φ0 M => ?_
  clear hok
  repeat' (first | (show OkOps _ _ _ _ _ _; first | refine okops_nil ?_ | refine s_plain tabOk rfl rfl rfl rfl rfl ?_ | (show OkOps _ _ _ (Oper.mk _ (Op.call _) _ _ _ (_) :: _) _ _; first | refine s_callD 16 rfl rfl rfl rfl rfl rfl rfl rfl (c287 p.1 p.2 (by first | omega | ((try simp only [decide_eq_true_eq, decide_eq_false_iff_not, Bool.not_eq_true', Bool.not_true, Bool.not_false, List.length_map, List.length_set, bne_iff_ne, ne_eq, beq_iff_eq, bne_eq_false_iff_eq, beq_eq_false_iff_ne] at *); omega)) (by first | omega | ((try simp only [decide_eq_true_eq, decide_eq_false_iff_not, Bool.not_eq_true', Bool.not_true, Bool.not_false, List.length_map, List.length_set, bne_iff_ne, ne_eq, beq_iff_eq, bne_eq_false_iff_eq, beq_eq_false_iff_ne] at *); omega)) (by first | omega | ((try simp only [decide_eq_true_eq, decide_eq_false_iff_not, Bool.not_eq_true', Bool.not_true, Bool.not_false, List.length_map, List.length_set, bne_iff_ne, ne_eq, beq_iff_eq, bne_eq_false_iff_eq, beq_eq_false_iff_ne] at *); omega)) (by first | omega | ((try simp only [decide_eq_true_eq, decide_eq_false_iff_not, Bool.not_eq_true', Bool.not_true, Bool.not_false, List.length_map, List.length_set, bne_iff_ne, ne_eq, beq_iff_eq, bne_eq_false_iff_eq, beq_eq_false_iff_ne] at *); omega))) rfl rfl rfl ?_ | fail) | fail) | (show OkC _ _ _ _ _; first | refine ok_seq ?_ | refine ok_region ?_ | refine ok_block ?_ | refine ok_skip ?_ | refine ok_ret ?_ | refine ok_exit ?_ | refine ok_cond rfl (fun h => ?_) (fun h => ?_) | refine s_loop 1 rfl [] subL_nil (fun (p : Int × Int) => [(0, .one (.d (encDigs (digs p.1)))), (1, .one (.d (encDigs (digs p.2))))]) (fun (p : Int × Int) => (0 ≤ p.1 ∧ p.1 < 1000000000000000000) ∧ (0 ≤ p.2 ∧ p.2 < 1000000000000000000) ∧ ((digs p.2).length = 0 ↔ p.2 = 0) ∧ Int.gcd p.1 p.2 = Int.gcd x y) (fun (p : Int × Int) => p.2.toNat) (x, y) (subL_cons rfl (subL_cons rfl subL_nil)) ?_ (fun p ⟨h1, h2, h3, h4⟩ => ?_) | fail) | (show thenQ _ _ _ _; first | refine then_n ?_ | refine then_x ?_ | fail) | (show blockQ _ _ _ _; first | refine block_n ?_ | refine block_x rfl ?_ | fail) | (show RetQ _ _ _ _ _ _; first | refine ret_leaf (.inl rfl) rfl rfl ?_ | fail) | (show Exists _; first | refine Exists.intro ((p.2, p.1 % p.2)) ⟨?_, ?_, (by first | exact subL_nil | exact (subL_cons rfl subL_nil) | exact (subL_cons rfl (subL_cons rfl subL_nil)) | exact (subL_cons rfl (subL_cons rfl (subL_cons rfl subL_nil))) | exact (subL_cons rfl (subL_cons rfl (subL_cons rfl (subL_cons rfl subL_nil)))) | exact (subL_cons rfl (subL_cons rfl (subL_cons rfl (subL_cons rfl (subL_cons rfl subL_nil))))) | exact (subL_cons rfl (subL_cons rfl (subL_cons rfl (subL_cons rfl (subL_cons rfl (subL_cons rfl subL_nil)))))) | exact (subL_cons rfl (subL_cons rfl (subL_cons rfl (subL_cons rfl (subL_cons rfl (subL_cons rfl (subL_cons rfl subL_nil))))))) | exact (subL_cons rfl (subL_cons rfl (subL_cons rfl (subL_cons rfl (subL_cons rfl (subL_cons rfl (subL_cons rfl (subL_cons rfl subL_nil))))))))), (subL_cons rfl (subL_cons rfl subL_nil)), subL_nil⟩ | fail) | fail)
  · exact ⟨⟨hx, hx1⟩, ⟨hy, hy1⟩, digs_zero, rfl⟩
  · have hp : p.2 ≠ 0 := by
      intro e
      have := h3.2 e
      simp [this] at h
    refine ⟨h2, mod_range h1.1 h1.2 (by omega), digs_zero, ?_⟩
    show Int.gcd p.2 (p.1 % p.2) = _
    rw [← h4]
    obtain ⟨a, ha⟩ := Int.eq_ofNat_of_zero_le h1.1
    obtain ⟨b, hb⟩ := Int.eq_ofNat_of_zero_le h2.1
    rw [ha, hb]
    show Nat.gcd b (a % b) = Nat.gcd a b
    rw [Nat.gcd_comm, ← Nat.gcd_rec, Nat.gcd_comm]
  · have hp : p.2 ≠ 0 := by
      intro e
      have := h3.2 e
      simp [this] at h
    have h5 := Int.emod_lt_of_pos p.1 (show 0 < p.2 by omega)
    have h6 := Int.emod_nonneg p.1 hp
    show (p.1 % p.2).toNat < p.2.toNat
    omega
  · have hp : p.2 = 0 := h3.1 (by simpa using h)
    rw [hp] at h4
    have : ((Int.gcd p.1 0 : Nat) : Int) = p.1 := by
      rw [Int.gcd_zero_right]; omega
    rw [← h4, this]
end Go.Proofs.YtpejdgkaapnekaaGreat
namespace Go.Proofs.YtpejdgkaapnekaaGreat
open Go Go.Abs
attribute [local irreducible] OkOps OkC DRun thenQ blockQ RetQ
set_option maxRecDepth 10000
def cmp1 (l : List Int) : Int := if (l.length : Int) < 1 then -1 else if 1 < (l.length : Int) then 1 else if at_ l 0 < 1 then -1 else if 1 < at_ l 0 then 1 else 0
theorem c265 (l : List Int) : CallA Tryz.prog 265 [.one (.d (encDigs l)), .one (.d (encDigs [1]))] [] (.one (.d (.int .i64 (cmp1 l)))) [] := by
  refine enter tabOk Tryz.func265 rfl (by decide +kernel) rfl fun hok w0 σ0 φ0 M => ?_
  have h1 := hok.1.sl.1; clear hok; simp only [List.length_map] at h1
  repeat' (first | (show OkOps _ _ _ _ _ _; first | refine okops_nil ?_ | refine s_plain tabOk rfl rfl rfl rfl rfl ?_ | (show OkOps _ _ _ (Oper.mk _ (Op.binOp .sub _ _ _ _) _ _ _ (_) :: _) _ _; first | refine s_e envOk rfl rfl rfl (step3_sub rfl rfl rfl rfl (wrap64 (by first | omega | ((try simp only [decide_eq_true_eq, decide_eq_false_iff_not, Bool.not_eq_true', Bool.not_true, Bool.not_false, List.length_map, List.length_set, bne_iff_ne, ne_eq, beq_iff_eq, bne_eq_false_iff_eq, beq_eq_false_iff_ne] at *); omega)) (by first | omega | ((try simp only [decide_eq_true_eq, decide_eq_false_iff_not, Bool.not_eq_true', Bool.not_true, Bool.not_false, List.length_map, List.length_set, bne_iff_ne, ne_eq, beq_iff_eq, bne_eq_false_iff_eq, beq_eq_false_iff_ne] at *); omega)))) ?_ | fail) | fail) | (show OkC _ _ _ _ _; first | refine ok_seq ?_ | refine ok_region ?_ | refine ok_block ?_ | refine ok_skip ?_ | refine ok_ret ?_ | refine ok_exit ?_ | refine ok_cond rfl (fun h => ?_) (fun h => ?_) | refine ok_regionD progOk.mo ?_ | refine ok_rounds 6 rfl 3 ?_ | fail) | (show thenQ _ _ _ _; first | refine then_n ?_ | refine then_r ?_ | refine then_x ?_ | fail) | (show blockQ _ _ _ _; first | refine block_n ?_ | refine block_r ?_ | refine block_x rfl ?_ | fail) | (show RetQ _ _ _ _ _ _; first | refine ret_leaf (.inl rfl) rfl rfl ?_ | fail) | (show DRun _ _ _ _ _ _ _ _; first | refine d_nil (by kernel_rfl) ?_ | refine d_e envOk rfl rfl rfl (step3_plain rfl rfl) ?_ | (show DRun _ _ _ _ (Oper.mk _ (Op.indexAddr _ _ _) _ _ _ (_) :: _) _ _ _; first | refine d_e envOk rfl rfl rfl (step3_idx rfl rfl rfl rfl rfl (by first | omega | ((try simp only [decide_eq_true_eq, decide_eq_false_iff_not, Bool.not_eq_true', Bool.not_true, Bool.not_false, List.length_map, List.length_set, bne_iff_ne, ne_eq, beq_iff_eq, bne_eq_false_iff_eq, beq_eq_false_iff_ne] at *); omega)) (at_map (by first | omega | ((try simp only [decide_eq_true_eq, decide_eq_false_iff_not, Bool.not_eq_true', Bool.not_true, Bool.not_false, List.length_map, List.length_set, bne_iff_ne, ne_eq, beq_iff_eq, bne_eq_false_iff_eq, beq_eq_false_iff_ne] at *); omega)))) ?_ | fail) | fail) | fail)
  all_goals (try (((simp_all [cmp1, at_drop, List.drop_eq_nil_of_le]) <;> first | omega | (rw [Bool.eq_iff_iff]; simp; omega) | grind); done))
  all_goals (try simp only [decide_eq_true_eq, decide_eq_false_iff_not, bne_eq_false_iff_eq, List.length_map, List.length_cons, List.length_nil] at *)
  all_goals (have hl : l.length = 1 := by omega)
  all_goals (obtain ⟨a, rfl⟩ := List.length_eq_one_iff.1 hl)
  all_goals (simp [cmp1, at_] at *; try omega)
end Go.Proofs.YtpejdgkaapnekaaGreat
namespace Go.Proofs.YtpejdgkaapnekaaGreat
open Go Go.Abs
attribute [local irreducible] OkOps OkC DRun thenQ blockQ RetQ
set_option maxRecDepth 10000
theorem cmp1_iff {g : Int} (h0 : 0 ≤ g) : (cmp1 (digs g) == 0) = (g == 1) := by
  unfold digs
  split
  · rename_i h; subst h; rfl
  · split
    · rename_i h1 h2
      simp [cmp1, at_]
      rw [Bool.eq_iff_iff]; simp
      split <;> (try split) <;> omega
    · rename_i h1 h2
      have : (g == 1) = false := by simp; omega
      rw [this]; simp [cmp1]
theorem gcd_eq {n d : Int} (hd : 1 ≤ d) : Int.gcd (max n (-n)) (max d (-d)) = Nat.gcd n.natAbs d.toNat := by
  unfold Int.gcd
  congr 1 <;> omega
theorem c268one : CallA Tryz.prog 268 [.one (.d (.int .u64 1))] [] (.one (.d (encDigs [1]))) [] := c268 1 (by omega) (by omega)
theorem c227 (k' n d : Int) (s : List UInt8) : CallA Tryz.prog 227 [.agg [.d (.int .i64 k'), .d (.int .i64 n), .d (.int .i64 d), .d (.str s)]] [] (.one (.d (.int .i64 (if rightF k' n d s then 0 else 2)))) [] := by
  refine enter tabOk Tryz.func227 rfl (by decide +kernel) rfl fun hok w0 σ0 φ0 M => ?_
  have hl := (hok.1 (.d (.str s)) (by simp)); replace hl := OkD.str hl; clear hok
  repeat' (first | (show OkOps _ _ _ _ _ _; first | refine okops_nil ?_ | refine s_plain tabOk rfl rfl rfl rfl rfl ?_ | (show OkOps _ _ _ (Oper.mk _ (_) _ _ _ (some _) :: _) _ _; first | refine s_guard rfl rfl (by first | assumption | rfl) ?_ | refine s_out rfl rfl (by first | assumption | rfl) rfl rfl ?_ | refine s_split rfl rfl rfl rfl (fun h => ?_) (fun h => ?_) | fail) | (show OkOps _ _ _ (Oper.mk _ (Op.binOp .add _ _ _ _) _ _ _ (_) :: _) _ _; first | refine s_e envOk rfl rfl rfl (step3_add rfl rfl rfl rfl (wrap64 (by omega) (by omega))) ?_ | fail) | (show OkOps _ _ _ (Oper.mk _ (Op.pick _ _ _) _ _ _ (_) :: _) _ _; first | refine s_e envOk rfl rfl rfl (step3_pickT rfl rfl (by first | rfl | assumption) rfl) ?_ | refine s_e envOk rfl rfl rfl (step3_pickF rfl rfl (by first | rfl | assumption) rfl) ?_ | fail) | (show OkOps _ _ _ (Oper.mk _ (Op.index _ _ _) _ _ _ (_) :: _) _ _; first | refine s_e envOk rfl rfl rfl (step3_idxStr rfl rfl rfl rfl (by first | omega | ((try simp only [decide_eq_true_eq, decide_eq_false_iff_not, Bool.not_eq_true', Bool.not_true, Bool.not_false, List.length_map, List.length_set, bne_iff_ne, ne_eq, beq_iff_eq, bne_eq_false_iff_eq, beq_eq_false_iff_ne] at *); omega)) (at_get (by first | omega | ((try simp only [decide_eq_true_eq, decide_eq_false_iff_not, Bool.not_eq_true', Bool.not_true, Bool.not_false, List.length_map, List.length_set, bne_iff_ne, ne_eq, beq_iff_eq, bne_eq_false_iff_eq, beq_eq_false_iff_ne] at *); omega)))) ?_ | fail) | (show OkOps _ _ _ (Oper.mk _ (Op.box _ _) _ _ _ (_) :: _) _ _; first | refine s_box 0 rfl rfl rfl rfl rfl rfl ?_ | fail) | fail) | (show OkC _ _ _ _ _; first | refine ok_seq ?_ | refine ok_region ?_ | refine ok_block ?_ | refine ok_skip ?_ | refine ok_ret ?_ | refine ok_exit ?_ | refine ok_condF rfl ?_ | refine ok_cond rfl (fun h => ?_) (fun h => ?_) | refine ok_regionD progOk.mo ?_ | refine s_loop 12 rfl [(1, _)] (subL_cons rfl subL_nil) (fun (p : Nat × Bool) => [(4, .one (.d (.int .i64 (p.1 : Int)))), (3, .one (.d (.bool p.2)))]) (fun (p : Nat × Bool) => p.1 ≤ s.length ∧ p.2 = ((n == 0 && (d == 0 && decide ((s.length : Int) ≤ 16))) && (s.take p.1).all okByte)) (fun (p : Nat × Bool) => s.length - p.1) (0, _) (subL_cons rfl (subL_cons rfl subL_nil)) ?_ (fun p ⟨hk, hp⟩ => ?_) | fail) | (show thenQ _ _ _ _; first | refine then_n ?_ | refine then_r ?_ | refine then_x ?_ | fail) | (show blockQ _ _ _ _; first | refine block_n ?_ | refine block_x rfl ?_ | fail) | (show RetQ _ _ _ _ _ _; first | refine ret_leaf (.inl rfl) rfl rfl ?_ | fail) | (show DRun _ _ _ _ _ _ _ _; first | refine d_nil (by kernel_rfl) ?_ | refine d_e envOk rfl rfl rfl (step3_plain rfl rfl) ?_ | (show DRun _ _ _ _ (Oper.mk _ (_) _ _ _ (some _) :: _) _ _ _; first | refine d_strip rfl rfl (by first | assumption | rfl) ?_ | refine d_out rfl rfl (by first | assumption | rfl) rfl rfl ?_ | refine d_split rfl rfl (fun h => ?_) (fun h => ?_) | fail) | (show DRun _ _ _ _ (Oper.mk _ (Op.pick _ _ _) _ _ _ (_) :: _) _ _ _; first | refine d_e envOk rfl rfl rfl (step3_pickT rfl rfl (by first | rfl | assumption) rfl) ?_ | refine d_e envOk rfl rfl rfl (step3_pickF rfl rfl (by first | rfl | assumption) rfl) ?_ | fail) | (show DRun _ _ _ _ (Oper.mk _ (Op.call _) _ _ _ (_) :: _) _ _ _; first | refine d_l rfl rfl (loc_callF' rfl rfl rfl rfl rfl rfl (c265 _) rfl) ?_ | refine d_callD 16 rfl rfl rfl rfl rfl rfl rfl rfl (c267 _ (by first | omega | ((try simp only [decide_eq_true_eq, decide_eq_false_iff_not, Bool.not_eq_true', Bool.not_true, Bool.not_false, List.length_map, List.length_set, bne_iff_ne, ne_eq, beq_iff_eq, bne_eq_false_iff_eq, beq_eq_false_iff_ne] at *); omega)) (by first | omega | ((try simp only [decide_eq_true_eq, decide_eq_false_iff_not, Bool.not_eq_true', Bool.not_true, Bool.not_false, List.length_map, List.length_set, bne_iff_ne, ne_eq, beq_iff_eq, bne_eq_false_iff_eq, beq_eq_false_iff_ne] at *); omega))) rfl rfl ?_ | refine d_callD 16 rfl rfl rfl rfl rfl rfl rfl rfl (c266 _ _ (by first | omega | ((try simp only [decide_eq_true_eq, decide_eq_false_iff_not, Bool.not_eq_true', Bool.not_true, Bool.not_false, List.length_map, List.length_set, bne_iff_ne, ne_eq, beq_iff_eq, bne_eq_false_iff_eq, beq_eq_false_iff_ne] at *); omega)) (by first | omega | ((try simp only [decide_eq_true_eq, decide_eq_false_iff_not, Bool.not_eq_true', Bool.not_true, Bool.not_false, List.length_map, List.length_set, bne_iff_ne, ne_eq, beq_iff_eq, bne_eq_false_iff_eq, beq_eq_false_iff_ne] at *); omega)) (by first | omega | ((try simp only [decide_eq_true_eq, decide_eq_false_iff_not, Bool.not_eq_true', Bool.not_true, Bool.not_false, List.length_map, List.length_set, bne_iff_ne, ne_eq, beq_iff_eq, bne_eq_false_iff_eq, beq_eq_false_iff_ne] at *); omega)) (by first | omega | ((try simp only [decide_eq_true_eq, decide_eq_false_iff_not, Bool.not_eq_true', Bool.not_true, Bool.not_false, List.length_map, List.length_set, bne_iff_ne, ne_eq, beq_iff_eq, bne_eq_false_iff_eq, beq_eq_false_iff_ne] at *); omega))) rfl rfl ?_ | refine d_callD 16 rfl rfl rfl rfl rfl rfl rfl rfl (c268one) rfl rfl ?_ | fail) | fail) | (show Exists _; first | refine Exists.intro ((p.1 + 1, _)) ⟨?_, ?_, (by first | exact subL_nil | exact (subL_cons rfl subL_nil) | exact (subL_cons rfl (subL_cons rfl subL_nil)) | exact (subL_cons rfl (subL_cons rfl (subL_cons rfl subL_nil))) | exact (subL_cons rfl (subL_cons rfl (subL_cons rfl (subL_cons rfl subL_nil)))) | exact (subL_cons rfl (subL_cons rfl (subL_cons rfl (subL_cons rfl (subL_cons rfl subL_nil))))) | exact (subL_cons rfl (subL_cons rfl (subL_cons rfl (subL_cons rfl (subL_cons rfl (subL_cons rfl subL_nil)))))) | exact (subL_cons rfl (subL_cons rfl (subL_cons rfl (subL_cons rfl (subL_cons rfl (subL_cons rfl (subL_cons rfl subL_nil))))))) | exact (subL_cons rfl (subL_cons rfl (subL_cons rfl (subL_cons rfl (subL_cons rfl (subL_cons rfl (subL_cons rfl (subL_cons rfl subL_nil))))))))), (subL_cons rfl (subL_cons rfl subL_nil)), (subL_cons rfl subL_nil)⟩ | fail) | fail)
  all_goals (try (((simp_all [rightF, plainF, at_take, okByte, at_drop, List.drop_eq_nil_of_le]) <;> first | omega | (rw [Bool.eq_iff_iff]; simp; omega) | grind); done))
  · rename_i a1 a2 a3 a4 a5 a6 a7 a8
    rw [gcd_eq (by simpa using a4), cmp1_iff (by omega)] at h
    simp_all [rightF]
  · rename_i a1 a2 a3 a4 a5 a6 a7 a8
    rw [gcd_eq (by simpa using a4), cmp1_iff (by omega)] at h
    simp_all [rightF]
  · refine ⟨Nat.zero_le _, ?_⟩
    change decide ((s.length : Int) ≤ 16) = _
    simp_all
  · rename_i a1 a2 a3 a4 a5 a6 a7 a8
    have hk' : p.1 < s.length := by simpa using a7
    refine ⟨by show p.1 + 1 ≤ _; omega, ?_⟩
    change decide (((at_ s p.1).toNat : Int) ≤ 126) = (n == 0 && (d == 0 && decide ((s.length : Int) ≤ 16)) && (List.take (p.1 + 1) s).all okByte)
    rw [at_take hk', List.all_append, ← Bool.and_assoc, ← hp, a8]
    have h2 : (32 : Int) ≤ ((at_ s p.1).toNat : Int) := by simpa using h
    have h' : 32 ≤ (at_ s p.1).toNat := by omega
    simp [okByte, h']
    try omega
end Go.Proofs.YtpejdgkaapnekaaGreat
namespace Go.Proofs.YtpejdgkaapnekaaGreat
open Go Go.Abs
attribute [local irreducible] OkOps OkC DRun thenQ blockQ RetQ
set_option maxRecDepth 10000
theorem c199 (k n d : Int) (s : List UInt8) (t : Int) : CallA Tryz.prog 199 [.agg [.d (.int .i64 k), .d (.int .i64 n), .d (.int .i64 d), .d (.str s)], .one (.d (.int .i64 t))] [] (.one (.d (.bool (fitsF k n d s t)))) [] := by
  refine enter tabOk Tryz.func199 rfl (by decide +kernel) rfl fun hok w0 σ0 φ0 M => ?_
  clear hok
  repeat' (first | (show OkOps _ _ _ _ _ _; first | refine okops_nil ?_ | refine s_plain tabOk rfl rfl rfl rfl rfl ?_ | (show OkOps _ _ _ (Oper.mk _ (_) _ _ _ (some _) :: _) _ _; first | refine s_guard rfl rfl (by first | assumption | rfl) ?_ | refine s_out rfl rfl (by first | assumption | rfl) rfl rfl ?_ | refine s_outN rfl rfl rfl rfl ?_ | refine s_split rfl rfl rfl rfl (fun h => ?_) (fun h => ?_) | fail) | (show OkOps _ _ _ (Oper.mk _ (Op.pick _ _ _) _ _ _ (_) :: _) _ _; first | refine s_e envOk rfl rfl rfl (step3_pickT rfl rfl (by first | rfl | assumption) rfl) ?_ | refine s_e envOk rfl rfl rfl (step3_pickF rfl rfl (by first | rfl | assumption) rfl) ?_ | fail) | (show OkOps _ _ _ (Oper.mk _ (Op.call _) _ _ _ (_) :: _) _ _; first | refine s_callF rfl rfl rfl rfl rfl rfl rfl rfl (c227 _ _ _ _) rfl ?_ | fail) | (show OkOps _ _ _ (Oper.mk _ (Op.box _ _) _ _ _ (_) :: _) _ _; first | refine s_box 0 rfl rfl rfl rfl rfl rfl ?_ | fail) | fail) | (show OkC _ _ _ _ _; first | refine ok_seq ?_ | refine ok_region ?_ | refine ok_block ?_ | refine ok_skip ?_ | refine ok_ret ?_ | refine ok_condT rfl ?_ | refine ok_cond rfl (fun h => ?_) (fun h => ?_) | fail) | (show thenQ _ _ _ _; first | refine then_n ?_ | refine then_r ?_ | fail) | (show blockQ _ _ _ _; first | refine block_n ?_ | refine block_r ?_ | fail) | (show RetQ _ _ _ _ _ _; first | refine ret_leaf (.inl rfl) rfl rfl ?_ | fail) | fail)
  all_goals (try (((simp_all [fitsF, at_drop, List.drop_eq_nil_of_le]) <;> first | omega | (rw [Bool.eq_iff_iff]; simp; omega) | grind); done))
  all_goals (by_cases hk : k = 3 <;> simp_all [fitsF, rightF])
end Go.Proofs.YtpejdgkaapnekaaGreat
namespace Go.Proofs.YtpejdgkaapnekaaGreat
open Go Go.Abs
attribute [local irreducible] OkOps OkC DRun thenQ blockQ RetQ
set_option maxRecDepth 10000
theorem c131 (ds : List Dim) (ats : List Attr) (at' : List Int) (vs : List Val) : CallA Tryz.prog 131 [.one (.d (encDims ds)), .one (.d (encAttrs ats)), .agg [.d (encInts at'), .d (encVals vs)]] [] (.one (.d (.int .i64 (cellF ds ats at' vs)))) [] := by
  refine enter tabOk Tryz.func131 rfl (by decide +kernel) rfl fun hok w0 σ0 φ0 M => ?_
  have h1 := hok.1.sl.1; have h2 := hok.2.1.sl.1; have h3 := OkD.sl (hok.2.2.1 (.d (encInts at')) (by simp)); have h4 := OkD.sl (hok.2.2.1 (.d (encVals vs)) (by simp)); clear hok
  replace h3 := h3.1; replace h4 := h4.1; simp only [List.length_map] at h1 h2 h3 h4
  repeat' (first | (show OkOps _ _ _ _ _ _; first | refine okops_nil ?_ | refine s_plain tabOk rfl rfl rfl rfl rfl ?_ | (show OkOps _ _ _ (Oper.mk _ (_) _ _ _ (some _) :: _) _ _; first | refine s_guard rfl rfl (by first | assumption | rfl) ?_ | refine s_out rfl rfl (by first | assumption | rfl) rfl rfl ?_ | refine s_split rfl rfl rfl rfl (fun h => ?_) (fun h => ?_) | fail) | (show OkOps _ _ _ (Oper.mk _ (Op.binOp .add _ _ _ _) _ _ _ (_) :: _) _ _; first | refine s_e envOk rfl rfl rfl (step3_add rfl rfl rfl rfl (wrap64 (by omega) (by omega))) ?_ | fail) | (show OkOps _ _ _ (Oper.mk _ (Op.pick _ _ _) _ _ _ (_) :: _) _ _; first | refine s_e envOk rfl rfl rfl (step3_pickT rfl rfl (by first | rfl | assumption) rfl) ?_ | refine s_e envOk rfl rfl rfl (step3_pickF rfl rfl (by first | rfl | assumption) rfl) ?_ | fail) | (show OkOps _ _ _ (Oper.mk _ (Op.call _) _ _ _ (_) :: _) _ _; first | refine s_callF rfl rfl rfl rfl rfl rfl rfl rfl (c100 _ _) rfl ?_ | fail) | (show OkOps _ _ _ (Oper.mk _ (Op.box _ _) _ _ _ (_) :: _) _ _; first | refine s_box 0 rfl rfl rfl rfl rfl rfl ?_ | fail) | fail) | (show OkC _ _ _ _ _; first | refine ok_seq ?_ | refine ok_region ?_ | refine ok_block ?_ | refine ok_skip ?_ | refine ok_ret ?_ | refine ok_exit ?_ | refine ok_condT rfl ?_ | refine ok_cond rfl (fun h => ?_) (fun h => ?_) | refine ok_regionD progOk.mo ?_ | refine s_loop 6 rfl [(1, _), (5, _)] (subL_cons rfl (subL_cons rfl subL_nil)) (fun (k : Nat) => [(7, .one (.d (.int .i64 k)))]) (fun (k : Nat) => k ≤ ats.length ∧ at'.length = ds.length ∧ vs.length = ats.length ∧ ofF ds at' = true ∧ cellF ds ats at' vs = valsGo (ats.drop k) (vs.drop k)) (fun (k : Nat) => ats.length - k) 0 (subL_cons rfl subL_nil) ?_ (fun k ⟨hk, hq, hq2, hof, hs⟩ => ?_) | fail) | (show thenQ _ _ _ _; first | refine then_n ?_ | refine then_r ?_ | refine then_x ?_ | fail) | (show blockQ _ _ _ _; first | refine block_n ?_ | refine block_r ?_ | refine block_x rfl ?_ | fail) | (show RetQ _ _ _ _ _ _; first | refine ret_leaf (.inl rfl) rfl rfl ?_ | fail) | (show DRun _ _ _ _ _ _ _ _; first | refine d_nil (by kernel_rfl) ?_ | refine d_e envOk rfl rfl rfl (step3_plain rfl rfl) ?_ | (show DRun _ _ _ _ (Oper.mk _ (Op.indexAddr _ _ _) _ _ _ (_) :: _) _ _ _; first | refine d_e envOk rfl rfl rfl (step3_idx rfl rfl rfl rfl rfl (by first | omega | ((try simp only [decide_eq_true_eq, decide_eq_false_iff_not, Bool.not_eq_true', Bool.not_true, Bool.not_false, List.length_map, List.length_set, bne_iff_ne, ne_eq, beq_iff_eq, bne_eq_false_iff_eq, beq_eq_false_iff_ne] at *); omega)) (at_map (by first | omega | ((try simp only [decide_eq_true_eq, decide_eq_false_iff_not, Bool.not_eq_true', Bool.not_true, Bool.not_false, List.length_map, List.length_set, bne_iff_ne, ne_eq, beq_iff_eq, bne_eq_false_iff_eq, beq_eq_false_iff_ne] at *); omega)))) ?_ | fail) | (show DRun _ _ _ _ (Oper.mk _ (Op.call _) _ _ _ (_) :: _) _ _ _; first | refine d_l rfl rfl (loc_callF' rfl rfl rfl rfl rfl rfl (c199 _ _ _ _ _) rfl) ?_ | fail) | fail) | (show Exists _; first | refine Exists.intro (k + 1) ⟨?_, ?_, (by first | exact subL_nil | exact (subL_cons rfl subL_nil) | exact (subL_cons rfl (subL_cons rfl subL_nil)) | exact (subL_cons rfl (subL_cons rfl (subL_cons rfl subL_nil))) | exact (subL_cons rfl (subL_cons rfl (subL_cons rfl (subL_cons rfl subL_nil)))) | exact (subL_cons rfl (subL_cons rfl (subL_cons rfl (subL_cons rfl (subL_cons rfl subL_nil))))) | exact (subL_cons rfl (subL_cons rfl (subL_cons rfl (subL_cons rfl (subL_cons rfl (subL_cons rfl subL_nil)))))) | exact (subL_cons rfl (subL_cons rfl (subL_cons rfl (subL_cons rfl (subL_cons rfl (subL_cons rfl (subL_cons rfl subL_nil))))))) | exact (subL_cons rfl (subL_cons rfl (subL_cons rfl (subL_cons rfl (subL_cons rfl (subL_cons rfl (subL_cons rfl (subL_cons rfl subL_nil))))))))), (subL_cons rfl subL_nil), (subL_cons rfl (subL_cons rfl subL_nil))⟩ | fail) | fail)
  all_goals (try (((simp_all [cellF, valsGo, at_drop, List.drop_eq_nil_of_le]) <;> first | omega | (rw [Bool.eq_iff_iff]; simp; omega) | grind); done))
end Go.Proofs.YtpejdgkaapnekaaGreat
namespace Go.Proofs.YtpejdgkaapnekaaGreat
open Go Go.Abs
attribute [local irreducible] OkOps OkC DRun thenQ blockQ RetQ
set_option maxRecDepth 10000
theorem c89 (ds : List Dim) (ats : List Attr) (cs : List Cell) : CallA Tryz.prog 89 [.agg [.d (encDims ds), .d (encAttrs ats), .d (encCells cs)]] [] (.one (.d (.int .i64 (checkF ds ats cs)))) [] := by
  refine enter tabOk Tryz.func89 rfl (by decide +kernel) rfl fun hok w0 σ0 φ0 M => ?_
  have h1 := (OkD.sl (hok.1 (.d (encCells cs)) (by simp))).1; clear hok; simp only [List.length_map] at h1
  repeat' (first | (show OkOps _ _ _ _ _ _; first | refine okops_nil ?_ | refine s_plain tabOk rfl rfl rfl rfl rfl ?_ | (show OkOps _ _ _ (Oper.mk _ (Op.binOp .add _ _ _ _) _ _ _ (_) :: _) _ _; first | refine s_e envOk rfl rfl rfl (step3_add rfl rfl rfl rfl (wrap64 (by omega) (by omega))) ?_ | fail) | (show OkOps _ _ _ (Oper.mk _ (Op.call _) _ _ _ (_) :: _) _ _; first | refine s_callF rfl rfl rfl rfl rfl rfl rfl rfl (c115 _ _) rfl ?_ | fail) | (show OkOps _ _ _ (Oper.mk _ (Op.box _ _) _ _ _ (_) :: _) _ _; first | refine s_box 0 rfl rfl rfl rfl rfl rfl ?_ | fail) | fail) | (show OkC _ _ _ _ _; first | refine ok_seq ?_ | refine ok_region ?_ | refine ok_block ?_ | refine ok_skip ?_ | refine ok_ret ?_ | refine ok_exit ?_ | refine ok_cond rfl (fun h => ?_) (fun h => ?_) | refine ok_regionD progOk.mo ?_ | refine s_loop 7 rfl [(1, _)] (subL_cons rfl subL_nil) (fun (k : Nat) => [(4, .one (.d (.int .i64 k)))]) (fun (k : Nat) => k ≤ cs.length ∧ schemaF ds ats = 0 ∧ (cs.length : Int) ≤ 4096 ∧ checkF ds ats cs = cellsGo ds ats (pv cs k) (cs.drop k)) (fun (k : Nat) => cs.length - k) 0 (subL_cons rfl subL_nil) ?_ (fun k ⟨hk, hsc, hq, hs⟩ => ?_) | fail) | (show thenQ _ _ _ _; first | refine then_n ?_ | refine then_r ?_ | refine then_x ?_ | fail) | (show blockQ _ _ _ _; first | refine block_n ?_ | refine block_r ?_ | refine block_x rfl ?_ | fail) | (show RetQ _ _ _ _ _ _; first | refine ret_leaf (.inl rfl) rfl rfl ?_ | fail) | (show DRun _ _ _ _ _ _ _ _; first | refine d_nil (by kernel_rfl) ?_ | refine d_e envOk rfl rfl rfl (step3_plain rfl rfl) ?_ | (show DRun _ _ _ _ (Oper.mk _ (Op.binOp .sub _ _ _ _) _ _ _ (_) :: _) _ _ _; first | refine d_e envOk rfl rfl rfl (step3_sub rfl rfl rfl rfl (wrap64 (by omega) (by omega))) ?_ | fail) | (show DRun _ _ _ _ (Oper.mk _ (Op.indexAddr _ _ _) _ _ _ (_) :: _) _ _ _; first | refine d_e envOk rfl rfl rfl (step3_idx rfl rfl rfl rfl rfl (by first | omega | ((try simp only [decide_eq_true_eq, decide_eq_false_iff_not, Bool.not_eq_true', Bool.not_true, Bool.not_false, List.length_map, List.length_set, bne_iff_ne, ne_eq, beq_iff_eq, bne_eq_false_iff_eq, beq_eq_false_iff_ne] at *); omega)) (at_map (by first | omega | ((try simp only [decide_eq_true_eq, decide_eq_false_iff_not, Bool.not_eq_true', Bool.not_true, Bool.not_false, List.length_map, List.length_set, bne_iff_ne, ne_eq, beq_iff_eq, bne_eq_false_iff_eq, beq_eq_false_iff_ne] at *); omega)))) ?_ | fail) | (show DRun _ _ _ _ (Oper.mk _ (Op.call _) _ _ _ (_) :: _) _ _ _; first | refine d_l rfl rfl (loc_callF' rfl rfl rfl rfl rfl rfl (c131 _ _ _ _) rfl) ?_ | refine d_l rfl rfl (loc_callF' rfl rfl rfl rfl rfl rfl (c176 _ _) rfl) ?_ | fail) | fail) | (show Exists _; first | refine Exists.intro (k + 1) ⟨?_, ?_, (by first | exact subL_nil | exact (subL_cons rfl subL_nil) | exact (subL_cons rfl (subL_cons rfl subL_nil)) | exact (subL_cons rfl (subL_cons rfl (subL_cons rfl subL_nil))) | exact (subL_cons rfl (subL_cons rfl (subL_cons rfl (subL_cons rfl subL_nil)))) | exact (subL_cons rfl (subL_cons rfl (subL_cons rfl (subL_cons rfl (subL_cons rfl subL_nil))))) | exact (subL_cons rfl (subL_cons rfl (subL_cons rfl (subL_cons rfl (subL_cons rfl (subL_cons rfl subL_nil)))))) | exact (subL_cons rfl (subL_cons rfl (subL_cons rfl (subL_cons rfl (subL_cons rfl (subL_cons rfl (subL_cons rfl subL_nil))))))) | exact (subL_cons rfl (subL_cons rfl (subL_cons rfl (subL_cons rfl (subL_cons rfl (subL_cons rfl (subL_cons rfl (subL_cons rfl subL_nil))))))))), (subL_cons rfl subL_nil), (subL_cons rfl subL_nil)⟩ | fail) | fail)
  all_goals (try (((simp_all [checkF, cellsGo, pv_zero, pv_pos, pv_succ, cmpF_pos, at_drop, List.drop_eq_nil_of_le]) <;> first | omega | (rw [Bool.eq_iff_iff]; simp; omega) | grind); done))
  · rename_i hlt
    have hk' : k < cs.length := by simpa using hlt
    have hb : cellF ds ats (at_ cs k).at' (at_ cs k).vals ≠ 0 := by simpa using h
    rw [hs, at_drop hk', cellsGo_bad hb]; simp
  · rename_i hlt hc
    have hk' : k < cs.length := by simpa using hlt
    have hk0 : k = 0 := by simpa using h
    have hb : cellF ds ats (at_ cs k).at' (at_ cs k).vals = 0 := by simpa using hc
    refine ⟨by omega, hsc, hq, ?_⟩
    rw [hs, at_drop hk', pv_succ]
    subst hk0
    simp [cellsGo, hb, pv_zero]
end Go.Proofs.YtpejdgkaapnekaaGreat
namespace Go.Proofs.YtpejdgkaapnekaaGreat
open Go Go.Abs
attribute [local irreducible] OkOps OkC DRun thenQ blockQ RetQ
set_option maxRecDepth 10000
theorem known_at {a : Arr} (hA : OkA a.dims a.attrs a.cells) {n : List UInt8} (h : decide (0 ≤ idxGo (fun x : Attr => x.name == n) a.attrs 0) = true) : srcF a.dims a.attrs n = (idxGo (fun x : Attr => x.name == n) a.attrs 0, false) := by
  have h0 : 0 ≤ atX a.attrs n := atX_pos h
  have hd : dimX a.dims n < 0 := by
    by_cases hd : dimX a.dims n < 0
    · exact hd
    · have := both_no hA hd; omega
  unfold srcF; rw [if_pos hd]; rfl
theorem known_dim {a : Arr} {n : List UInt8} (h1 : (!(decide (0 ≤ dimX a.dims n) || decide (0 ≤ atX a.attrs n))) = false) (h2 : decide (0 ≤ idxGo (fun x : Attr => x.name == n) a.attrs 0) = false) : srcF a.dims a.attrs n = (dimX a.dims n, true) ∧ ¬ dimX a.dims n < 0 := by
  have h0 : ¬ 0 ≤ atX a.attrs n := of_decide_eq_false h2
  have hd : ¬ dimX a.dims n < 0 := by
    intro hd
    simp only [Bool.not_eq_false', Bool.or_eq_true, decide_eq_true_eq] at h1
    omega
  unfold srcF; rw [if_neg hd]; exact ⟨rfl, hd⟩
theorem known_no {a : Arr} {n : List UInt8} (h : (!(decide (0 ≤ dimX a.dims n) || decide (0 ≤ atX a.attrs n))) = true) : (srcF a.dims a.attrs n).1 < 0 := by
  simp only [Bool.not_eq_true', Bool.or_eq_false_iff, decide_eq_false_iff_not] at h
  unfold srcF
  rw [if_pos (by omega)]
  show atX a.attrs n < 0
  omega
theorem c116y (a : Arr) (c : Cell) (ds : List Dim) (h4 : ds.length ≤ 1000) (hsk : ∀ i, i < ds.length → ¬ (srcF a.dims a.attrs (at_ ds i).name).1 < 0) (hso : ∀ i, i < ds.length → okS (srcF a.dims a.attrs (at_ ds i).name) c) (hm : (fromF a ds).all (fun s => (ofS s c).kind == 2) = true) :
    CallA Tryz.prog 116 [.agg [.d (encDims a.dims), .d (encAttrs a.attrs), .d (encCells a.cells)], .agg [.d (encInts c.at'), .d (encVals c.vals)], .one (.d (encDims ds))] [] (.tup [(false, [.d (encInts (numsF (fromF a ds) c))]), (false, [.d (.bool (withinL ds (numsF (fromF a ds) c)))])]) [] := by
  have h := c116 a c ds h4 hsk hso
  unfold movedAV at h
  rw [if_pos hm] at h
  exact h
theorem c116n (a : Arr) (c : Cell) (ds : List Dim) (h4 : ds.length ≤ 1000) (hsk : ∀ i, i < ds.length → ¬ (srcF a.dims a.attrs (at_ ds i).name).1 < 0) (hso : ∀ i, i < ds.length → okS (srcF a.dims a.attrs (at_ ds i).name) c) (hm : ¬ (fromF a ds).all (fun s => (ofS s c).kind == 2) = true) :
    CallA Tryz.prog 116 [.agg [.d (encDims a.dims), .d (encAttrs a.attrs), .d (encCells a.cells)], .agg [.d (encInts c.at'), .d (encVals c.vals)], .one (.d (encDims ds))] [] (.tup [(false, [.d .nil]), (false, [.d (.bool false)])]) [] := by
  have h := c116 a c ds h4 hsk hso
  unfold movedAV at h
  rw [if_neg hm] at h
  exact h
theorem c119e (l : List Cell) (c : Cell) (ys : List (List D)) (hy : ys = c.vals.map encVal) (hs : l.Pairwise ltC) (hl : l.length ≤ 4096) : CallA Tryz.prog 119 [.one (.d (encCells l)), .agg [.d (encInts c.at'), .d (.sl 4 40 ys)]] [] (.one (.d (encCells (putF l c)))) [] := by
  subst hy; exact c119 l c hs hl
theorem c117y (l : List Cell) (x : List Int) (hs : l.Pairwise ltC) (hf : foundF l x = true) : CallA Tryz.prog 117 [.one (.d (encCells l)), .one (.d (encInts x))] [] (.one (.d (.int .i64 (placeF x l : Int)))) [] := by
  have h := c117 l x hs
  rw [if_pos hf] at h; exact h
theorem c117n (l : List Cell) (x : List Int) (hs : l.Pairwise ltC) (hf : ¬ foundF l x = true) : CallA Tryz.prog 117 [.one (.d (encCells l)), .one (.d (encInts x))] [] (.one (.d (.int .i64 (-1)))) [] := by
  have h := c117 l x hs
  rw [if_neg hf] at h; exact h
theorem c101k (ds : List Dim) (ats : List Attr) (l : List Cell) (hd : l.Pairwise diffC) (h1 : ds.length ≤ 1048576) (h2 : ats.length ≤ 1048576) (h3 : ∀ c ∈ l, smallC c) (hl : l.length ≤ 4096) : CallA Tryz.prog 101 [.one (.d (encDims ds)), .one (.d (encAttrs ats)), .one (.d (encCells l))] [] (.tup [(true, [.d (encDims ds), .d (encAttrs ats), .d (encCells (sortF l))]), (false, [.d (.int .i64 0)])]) [] := by
  have h := c101 ds ats l hd h1 h2 h3
  unfold resF at h
  rw [if_neg (by omega)] at h
  exact h
theorem vals_row {a : Arr} {names : List (List UInt8)} {n : Nat} {c : Cell} {x : List Int} {r : List (List D)} (h : r = (names.take n).map (fun m => encVal (ofS (srcF a.dims a.attrs m) c))) (hn : names.length ≤ n) : r.take n = (nextF (keptF a names) x c).vals.map encVal := by
  rw [h, List.take_of_length_le (by simp; omega), List.take_of_length_le hn]; simp [keptF, nextF]
theorem dimS_lt {a : Arr} {c : Cell} {n : List UInt8} (hc : c.at'.length = a.dims.length) (h : decide (0 ≤ idxGo (fun x : Dim => x.name == n) a.dims 0) = true) : (idxGo (fun x : Dim => x.name == n) a.dims 0).toNat < c.at'.length := by
  have h0 := atX_pos h
  obtain ⟨k, h1, h2, _, _⟩ := idxGo_at (p := fun x : Dim => x.name == n) (l := a.dims) (j := 0) (by omega)
  rw [h1, hc]; simpa using h2
theorem atS_pos {a : Arr} {n : List UInt8} (hk : ¬ (srcF a.dims a.attrs n).1 < 0) (h : decide (0 ≤ idxGo (fun x : Dim => x.name == n) a.dims 0) = false) : 0 ≤ idxGo (fun x : Attr => x.name == n) a.attrs 0 := by
  have hd : dimX a.dims n < 0 := by have := of_decide_eq_false h; unfold dimX; omega
  unfold srcF at hk; rw [if_pos hd] at hk
  have hk' : ¬ idxGo (fun x : Attr => x.name == n) a.attrs 0 < 0 := hk
  omega
theorem atS_lt {a : Arr} {c : Cell} {n : List UInt8} (hc : c.vals.length = a.attrs.length) (h0 : 0 ≤ idxGo (fun x : Attr => x.name == n) a.attrs 0) : (idxGo (fun x : Attr => x.name == n) a.attrs 0).toNat < c.vals.length := by
  obtain ⟨k, h1, h2, _, _⟩ := idxGo_at (p := fun x : Attr => x.name == n) (l := a.attrs) (j := 0) (by omega)
  rw [h1, hc]; simpa using h2
theorem putF_sorted {l : List Cell} {c : Cell} (h : l.Pairwise ltC) : (putF l c).Pairwise ltC := by rw [putF_eq]; exact putR_sorted h
theorem putF_len {l : List Cell} {c : Cell} : (putF l c).length ≤ l.length + 1 := by
  unfold putF
  split
  · rw [List.length_set]; omega
  · rw [List.length_append, List.length_cons, List.length_take, List.length_drop]; omega
theorem putF_small {l : List Cell} {c : Cell} (h : ∀ x ∈ l, smallC x) (hc : smallC c) : ∀ x ∈ putF l c, smallC x := by
  intro x hx
  rw [putF_eq] at hx
  rcases putR_mem hx with rfl | hx
  · exact hc
  · exact h x hx
section
variable {src kept : List (Int × Bool)} {ds : List Dim} {rule : Int} {l l' r : List Cell} {c : Cell}
theorem ref_skip (h : movedF src ds c = none) : refStep src kept ds rule l c = some l := by unfold refStep; rw [h]
theorem ref_go (h : refStep src kept ds rule l c = some l') : refGo src kept ds rule l (c :: r) = refGo src kept ds rule l' r := by simp only [refGo, h]
theorem ref_stop (h : refStep src kept ds rule l c = none) : refGo src kept ds rule l (c :: r) = none := by simp only [refGo, h]
theorem ref_one {x : List Int} (h : movedF src ds c = some x) (hf : foundF l x = true) (hr : (rule == 1) = true) : refStep src kept ds rule l c = none := by unfold refStep; rw [h]; simp [hf, hr]
theorem ref_two {x : List Int} (h : movedF src ds c = some x) (hf : foundF l x = true) (h1 : (rule == 1) = false) (hr : (rule == 2) = true) : refStep src kept ds rule l c = some l := by unfold refStep; rw [h]; simp [hf, hr, h1]
theorem ref_put {x : List Int} (h : movedF src ds c = some x) (hf : foundF l x = true → (rule == 1) = false ∧ (rule == 2) = false) : refStep src kept ds rule l c = some (putF l (nextF kept x c)) := by
  unfold refStep
  rw [h]
  cases hx : foundF l x with
  | false => simp [hx]
  | true => obtain ⟨e1, e2⟩ := hf hx; simp [hx, e1, e2]
theorem moved_not (h : ¬ (src.all fun s => (ofS s c).kind == 2) = true) : movedF src ds c = none := by unfold movedF; rw [if_neg h]
end
theorem next_small {kept : List (Int × Bool)} {x : List Int} {c : Cell} (h1 : x.length ≤ 1048576) (h2 : kept.length ≤ 1048576) : smallC (nextF kept x c) := ⟨h1, by simpa [nextF] using h2⟩
theorem ref_end {a : Arr} {ds : List Dim} {names : List (List UInt8)} {rule : Int} {l : List Cell} (hc : chkA a = 0) (h1 : 1 ≤ rule) (h3 : rule ≤ 3) (he : redErr a ds names = 0) (h : refGo (fromF a ds) (keptF a names) ds rule [] a.cells = some l) : redF a ds names rule = (some ⟨ds, listF a names, l⟩, 0) := by
  have e := refGo_eq (src := fromF a ds) (kept := keptF a names) (ds := ds) h1 h3 a.cells [] .nil
  have e0 : sortF [] = [] := by simp [sortF]
  rw [e0, h] at e
  cases hg : redGo (fromF a ds) (keptF a names) ds rule [] a.cells with
  | none => rw [hg] at e; simp at e
  | some cs =>
    rw [hg] at e
    simp only [Option.map_some, Option.some.injEq] at e
    have hl := go_len hg
    have := (okA hc).few
    unfold redF
    rw [if_neg (by unfold chkA at hc; omega), if_neg (by simp [he]), hg]
    show resF _ _ _ = _
    unfold resF
    rw [if_neg (by omega), ← e]
theorem ref_conflict {a : Arr} {ds : List Dim} {names : List (List UInt8)} {rule : Int} (hc : chkA a = 0) (h1 : 1 ≤ rule) (h3 : rule ≤ 3) (he : redErr a ds names = 0) (h : refGo (fromF a ds) (keptF a names) ds rule [] a.cells = none) : redF a ds names rule = (none, 19) := by
  have e := refGo_eq (src := fromF a ds) (kept := keptF a names) (ds := ds) h1 h3 a.cells [] .nil
  have e0 : sortF [] = [] := by simp [sortF]
  rw [e0, h] at e
  cases hg : redGo (fromF a ds) (keptF a names) ds rule [] a.cells with
  | none => exact redF_none hc h1 h3 he hg
  | some cs => rw [hg] at e; simp at e
theorem srcF_dim {a : Arr} {n : List UInt8} (h : decide (0 ≤ idxGo (fun x : Dim => x.name == n) a.dims 0) = true) : srcF a.dims a.attrs n = (idxGo (fun x : Dim => x.name == n) a.dims 0, true) := by
  have h0 := of_decide_eq_true h
  unfold srcF
  rw [if_neg (by unfold dimX; omega)]; rfl
theorem srcF_attr {a : Arr} {n : List UInt8} (h : decide (0 ≤ idxGo (fun x : Dim => x.name == n) a.dims 0) = false) : srcF a.dims a.attrs n = (idxGo (fun x : Attr => x.name == n) a.attrs 0, false) := by
  have h0 := of_decide_eq_false h
  unfold srcF
  rw [if_pos (by unfold dimX; omega)]; rfl
set_option maxHeartbeats 8000000 in
theorem c30 (a : Arr) (ds : List Dim) (names : List (List UInt8)) (rule : Int) (hdl : ds.length ≤ 1048576) (hnames : names.length ≤ 1048576) : CallA Tryz.prog 30 [aggA a, .one (.d (encDims ds)), .one (.d (encNames names)), .one (.d (.int .i64 rule))] [] (arrE (redF a ds names rule)) [] := by
  unfold aggA
  refine enter tabOk Tryz.func30 rfl (by decide +kernel) rfl fun hok w0 σ0 φ0 M => ?_
  clear hok
  by_cases hg : chkA a = 0 ∧ 1 ≤ rule ∧ rule ≤ 3
  rotate_left
  · have e : redF a ds names rule = (none, 2) := by
      unfold redF
      rw [if_pos (by unfold chkA at hg; omega)]
    have hA : OkA a.dims a.attrs a.cells → OkA a.dims a.attrs a.cells := id
    rw [e]
    by_cases hc : chkA a = 0
    · have hv : (checkF a.dims a.attrs a.cells != 0) = false := by unfold chkA at hc; simp [hc]
      by_cases h1 : rule < 1
      · have hb1 : decide (rule < 1) = true := by simp [h1]
        repeat' (first | (show OkOps _ _ _ _ _ _; first | refine okops_nil ?_ | refine s_plain tabOk rfl rfl rfl rfl rfl ?_ | (show OkOps _ _ _ (Oper.mk _ (_) _ _ _ (some _) :: _) _ _; first | refine s_guard rfl rfl (by first | assumption | rfl) ?_ | refine s_out rfl rfl (by first | assumption | rfl) rfl rfl ?_ | fail) | (show OkOps _ _ _ (Oper.mk _ (Op.pick _ _ _) _ _ _ (_) :: _) _ _; first | refine s_e envOk rfl rfl rfl (step3_pickT rfl rfl (by first | rfl | assumption) rfl) ?_ | refine s_e envOk rfl rfl rfl (step3_pickF rfl rfl (by first | rfl | assumption) rfl) ?_ | fail) | (show OkOps _ _ _ (Oper.mk _ (Op.call _) _ _ _ (_) :: _) _ _; first | refine s_callF rfl rfl rfl rfl rfl rfl rfl rfl (c89 _ _ _) rfl ?_ | fail) | (show OkOps _ _ _ (Oper.mk _ (Op.box _ _) _ _ _ (_) :: _) _ _; first | refine s_box 0 rfl rfl rfl rfl rfl rfl ?_ | fail) | (show OkOps _ _ _ (Oper.mk _ (Op.alloc _) _ _ _ (_) :: _) _ _; first | refine s_alloc tabOk 1 rfl rfl rfl rfl rfl ?_ | fail) | refine s_store envOk rfl rfl rfl ?_ | fail) | (show OkC _ _ _ _ _; first | refine ok_seq ?_ | refine ok_region ?_ | refine ok_ret ?_ | refine ok_condT rfl ?_ | fail) | (show thenQ _ _ _ _; first | refine then_n ?_ | refine then_r ?_ | fail) | (show RetQ _ _ _ _ _ _; first | refine ret_leaf (.inl rfl) rfl rfl ?_ | fail) | fail)
        all_goals rfl
      · have hb1 : decide (rule < 1) = false := by simp [h1]
        have hb2 : decide (3 < rule) = true := by simp; omega
        repeat' (first | (show OkOps _ _ _ _ _ _; first | refine okops_nil ?_ | refine s_plain tabOk rfl rfl rfl rfl rfl ?_ | (show OkOps _ _ _ (Oper.mk _ (_) _ _ _ (some _) :: _) _ _; first | refine s_guard rfl rfl (by first | assumption | rfl) ?_ | fail) | (show OkOps _ _ _ (Oper.mk _ (Op.pick _ _ _) _ _ _ (_) :: _) _ _; first | refine s_e envOk rfl rfl rfl (step3_pickF rfl rfl (by first | rfl | assumption) rfl) ?_ | fail) | (show OkOps _ _ _ (Oper.mk _ (Op.call _) _ _ _ (_) :: _) _ _; first | refine s_callF rfl rfl rfl rfl rfl rfl rfl rfl (c89 _ _ _) rfl ?_ | fail) | (show OkOps _ _ _ (Oper.mk _ (Op.box _ _) _ _ _ (_) :: _) _ _; first | refine s_box 0 rfl rfl rfl rfl rfl rfl ?_ | fail) | (show OkOps _ _ _ (Oper.mk _ (Op.alloc _) _ _ _ (_) :: _) _ _; first | refine s_alloc tabOk 1 rfl rfl rfl rfl rfl ?_ | fail) | refine s_store envOk rfl rfl rfl ?_ | fail) | (show OkC _ _ _ _ _; first | refine ok_seq ?_ | refine ok_region ?_ | refine ok_ret ?_ | refine ok_condKT rfl (by assumption) ?_ | fail) | (show thenQ _ _ _ _; first | refine then_n ?_ | refine then_r ?_ | fail) | (show RetQ _ _ _ _ _ _; first | refine ret_leaf (.inl rfl) rfl rfl ?_ | fail) | fail)
        all_goals rfl
    · have hv : (checkF a.dims a.attrs a.cells != 0) = true := by unfold chkA at hc; simp [hc]
      repeat' (first | (show OkOps _ _ _ _ _ _; first | refine okops_nil ?_ | refine s_plain tabOk rfl rfl rfl rfl rfl ?_ | (show OkOps _ _ _ (Oper.mk _ (_) _ _ _ (some _) :: _) _ _; first | refine s_out rfl rfl (by first | assumption | rfl) rfl rfl ?_ | fail) | (show OkOps _ _ _ (Oper.mk _ (Op.pick _ _ _) _ _ _ (_) :: _) _ _; first | refine s_e envOk rfl rfl rfl (step3_pickT rfl rfl (by first | rfl | assumption) rfl) ?_ | fail) | (show OkOps _ _ _ (Oper.mk _ (Op.call _) _ _ _ (_) :: _) _ _; first | refine s_callF rfl rfl rfl rfl rfl rfl rfl rfl (c89 _ _ _) rfl ?_ | fail) | (show OkOps _ _ _ (Oper.mk _ (Op.box _ _) _ _ _ (_) :: _) _ _; first | refine s_box 0 rfl rfl rfl rfl rfl rfl ?_ | fail) | (show OkOps _ _ _ (Oper.mk _ (Op.alloc _) _ _ _ (_) :: _) _ _; first | refine s_alloc tabOk 1 rfl rfl rfl rfl rfl ?_ | fail) | refine s_store envOk rfl rfl rfl ?_ | fail) | (show OkC _ _ _ _ _; first | refine ok_seq ?_ | refine ok_region ?_ | refine ok_ret ?_ | refine ok_condT rfl ?_ | fail) | (show thenQ _ _ _ _; first | refine then_n ?_ | refine then_r ?_ | fail) | (show RetQ _ _ _ _ _ _; first | refine ret_leaf (.inl rfl) rfl rfl ?_ | fail) | fail)
      all_goals rfl
  obtain ⟨hc, h1, h3⟩ := hg
  have hv : (checkF a.dims a.attrs a.cells != 0) = false := by unfold chkA at hc; simp [hc]
  have hb1 : decide (rule < 1) = false := by simp; omega
  have hb2 : decide (3 < rule) = false := by simp; omega
  have hA := okA hc
  by_cases hse : srcErr a ds = 0
  rotate_left
  · have hs1 : (srcErr a ds != 0) = true := by simp [hse]
    rw [red_err hc h1 h3 (redErr_src rfl hse) hse]
    repeat' (first | (show OkOps _ _ _ _ _ _; first | refine okops_nil ?_ | refine s_plain tabOk rfl rfl rfl rfl rfl ?_ | (show OkOps _ _ _ (Oper.mk _ (_) _ _ _ (some _) :: _) _ _; first | refine s_guard rfl rfl (by first | assumption | rfl) ?_ | fail) | (show OkOps _ _ _ (Oper.mk _ (Op.pick _ _ _) _ _ _ (_) :: _) _ _; first | refine s_e envOk rfl rfl rfl (step3_pickF rfl rfl (by first | rfl | assumption) rfl) ?_ | fail) | (show OkOps _ _ _ (Oper.mk _ (Op.call _) _ _ _ (_) :: _) _ _; first | refine s_callF rfl rfl rfl rfl rfl rfl rfl rfl (c89 _ _ _) rfl ?_ | refine s_callF rfl rfl rfl rfl rfl rfl rfl rfl (c112 a hA ds) rfl ?_ | fail) | (show OkOps _ _ _ (Oper.mk _ (Op.box _ _) _ _ _ (_) :: _) _ _; first | refine s_box 0 rfl rfl rfl rfl rfl rfl ?_ | fail) | (show OkOps _ _ _ (Oper.mk _ (Op.alloc _) _ _ _ (_) :: _) _ _; first | refine s_alloc tabOk 1 rfl rfl rfl rfl rfl ?_ | fail) | refine s_store envOk rfl rfl rfl ?_ | fail) | (show OkC _ _ _ _ _; first | refine ok_seq ?_ | refine ok_region ?_ | refine ok_skip ?_ | refine ok_ret ?_ | refine ok_condKT rfl (by assumption) ?_ | refine ok_condKF rfl (by assumption) ?_ | fail) | (show thenQ _ _ _ _; first | refine then_n ?_ | refine then_r ?_ | fail) | (show RetQ _ _ _ _ _ _; first | refine ret_leaf (.inl rfl) rfl rfl ?_ | fail) | fail)
    all_goals rfl
  have hs1 : (srcErr a ds != 0) = false := by simp [hse]
  repeat' (first | (show OkOps _ _ _ _ _ _; first | (show OkOps _ _ _ (Oper.mk _ (Op.indexAddr _ _ _) _ _ _ (_) :: _) _ _; first | refine s_e envOk rfl rfl rfl (step3_idx rfl rfl rfl rfl rfl (atX_pos (by assumption)) (at_map (atX_lt (by assumption)))) ?_ | fail) | refine okops_nil ?_ | refine s_plain tabOk rfl rfl rfl rfl rfl ?_ | (show OkOps _ _ _ (Oper.mk _ (Op.call _) _ _ _ (_) :: _) _ _; first | refine s_append tabOk rfl rfl rfl rfl rfl rfl rfl rfl rfl rfl rfl rfl rfl (by first | omega | ((try simp only [decide_eq_true_eq, decide_eq_false_iff_not, List.length_map, List.length_cons, List.length_nil, List.length_append, List.length_take, List.length_drop, Int.toNat_natCast] at *); omega)) (by first | exact Nat.le_of_ble_eq_true rfl | omega | ((try simp only [decide_eq_true_eq, decide_eq_false_iff_not, List.length_map, List.length_cons, List.length_nil, List.length_append, List.length_take, List.length_drop, Int.toNat_natCast] at *); omega)) (Nat.le_of_ble_eq_true rfl) ?_ | fail) | (show OkOps _ _ _ (Oper.mk _ (_) _ _ _ (some _) :: _) _ _; first | refine s_guard rfl rfl (by first | assumption | rfl) ?_ | fail) | (show OkOps _ _ _ (Oper.mk _ (Op.binOp .add _ _ _ _) _ _ _ (_) :: _) _ _; first | refine s_e envOk rfl rfl rfl (step3_add rfl rfl rfl rfl (wrap64 (by omega) (by omega))) ?_ | fail) | (show OkOps _ _ _ (Oper.mk _ (Op.pick _ _ _) _ _ _ (_) :: _) _ _; first | refine s_e envOk rfl rfl rfl (step3_pickF rfl rfl (by first | rfl | assumption) rfl) ?_ | fail) | (show OkOps _ _ _ (Oper.mk _ (Op.indexAddr _ _ _) _ _ _ (_) :: _) _ _; first | refine s_e envOk rfl rfl rfl (step3_idx rfl rfl rfl rfl rfl (by first | omega | ((try simp only [decide_eq_true_eq, decide_eq_false_iff_not, Bool.not_eq_true', Bool.not_true, Bool.not_false, List.length_map, List.length_set, bne_iff_ne, ne_eq, beq_iff_eq, bne_eq_false_iff_eq, beq_eq_false_iff_ne] at *); omega)) (at_map (by first | omega | ((try simp only [decide_eq_true_eq, decide_eq_false_iff_not, Bool.not_eq_true', Bool.not_true, Bool.not_false, List.length_map, List.length_set, bne_iff_ne, ne_eq, beq_iff_eq, bne_eq_false_iff_eq, beq_eq_false_iff_ne] at *); omega)))) ?_ | fail) | (show OkOps _ _ _ (Oper.mk _ (Op.call _) _ _ _ (_) :: _) _ _; first | refine s_callF rfl rfl rfl rfl rfl rfl rfl rfl (c89 _ _ _) rfl ?_ | refine s_callF rfl rfl rfl rfl rfl rfl rfl rfl (c112 a hA ds) rfl ?_ | refine s_callF rfl rfl rfl rfl rfl rfl rfl rfl (c115 _ _) rfl ?_ | fail) | (show OkOps _ _ _ (Oper.mk _ (Op.box _ _) _ _ _ (_) :: _) _ _; first | refine s_box 0 rfl rfl rfl rfl rfl rfl ?_ | fail) | (show OkOps _ _ _ (Oper.mk _ (Op.alloc _) _ _ _ (_) :: _) _ _; first | refine s_alloc tabOk 1 rfl rfl rfl rfl rfl ?_ | fail) | refine s_store envOk rfl rfl rfl ?_ | refine s_new envOk 2 rfl rfl rfl rfl rfl rfl ?_ | fail) | (show OkC _ _ _ _ _; first | (show OkC _ _ (Code.region 17 _ _) _ _; refine okc_imp (st' := ⟨[(1, .one (.d (encDims ds))), (2, .one (.d (encNames names))), (3, .one (.d (.int .i64 rule))), (4, .one (.ref 0 0)), (8, .one (.ref 1 0)), (11, .one (.d (encAttrs (listF a names))))], [(0, .box [.d (encDims a.dims), .d (encAttrs a.attrs), .d (encCells a.cells)]), (1, .box [.d .nil, .d .nil, .d .nil])]⟩) (Imp.trans (imp_sealL (dl := [11]) rfl) (imp_sub (subL_cons rfl (subL_cons rfl (subL_cons rfl (subL_cons rfl (subL_cons rfl (subL_cons (congrArg (fun x => some (AV.one (AC.d (D.sl 2 24 x)))) (list_row hq2 (by first | omega | ((try simp only [decide_eq_true_eq, decide_eq_false_iff_not, Bool.not_eq_true', Bool.not_true, Bool.not_false, List.length_map, List.length_set, bne_iff_ne, ne_eq, beq_iff_eq, bne_eq_false_iff_eq, beq_eq_false_iff_ne] at *); omega)))) subL_nil)))))) (subL_cons rfl (subL_cons rfl subL_nil)))) ?_) | refine ok_seq ?_ | refine ok_region ?_ | refine ok_block ?_ | refine ok_skip ?_ | refine ok_ret ?_ | refine ok_exit ?_ | refine ok_condKF rfl (by assumption) ?_ | refine ok_cond rfl (fun h => ?_) (fun h => ?_) | refine ok_regionD progOk.mo ?_ | refine s_loopN 8 rfl (imp_adopt (s := 11) (id := 11) (k := 2) (b := 24) rfl rfl rfl rfl) [(1, _), (2, _), (3, _), (4, _), (8, _)] (subL_cons rfl (subL_cons rfl (subL_cons rfl (subL_cons rfl (subL_cons rfl subL_nil))))) (fun (bN : Bool × Bool) (q : Nat × List (List D)) => [(11, .one (.own 11 q.1)), (12, .one (.d (.int .i64 (q.1 : Int))))]) (fun (bN : Bool × Bool) (q : Nat × List (List D)) => [(11, .row 2 24 q.2), (0, .box [.d (encDims a.dims), .d (encAttrs a.attrs), .d (encCells a.cells)]), (1, .box [.d .nil, .d .nil, .d .nil])]) (fun (q : Nat × List (List D)) => q.1 ≤ names.length ∧ q.2 = (names.take q.1).map (fun n => encAttr ⟨n, srcT a.attrs (srcF a.dims a.attrs n)⟩) ∧ keptErr a names = keptErr a (names.drop q.1)) (fun (q : Nat × List (List D)) => names.length - q.1) (0, []) (subL_cons rfl (subL_cons rfl subL_nil)) (by first | exact subL_nil | exact (subL_cons rfl subL_nil) | exact (subL_cons rfl (subL_cons rfl subL_nil)) | exact (subL_cons rfl (subL_cons rfl (subL_cons rfl subL_nil))) | exact (subL_cons rfl (subL_cons rfl (subL_cons rfl (subL_cons rfl subL_nil)))) | exact (subL_cons rfl (subL_cons rfl (subL_cons rfl (subL_cons rfl (subL_cons rfl subL_nil))))) | exact (subL_cons rfl (subL_cons rfl (subL_cons rfl (subL_cons rfl (subL_cons rfl (subL_cons rfl subL_nil)))))) | exact (subL_cons rfl (subL_cons rfl (subL_cons rfl (subL_cons rfl (subL_cons rfl (subL_cons rfl (subL_cons rfl subL_nil))))))) | exact (subL_cons rfl (subL_cons rfl (subL_cons rfl (subL_cons rfl (subL_cons rfl (subL_cons rfl (subL_cons rfl (subL_cons rfl subL_nil))))))))) (fun b y => by obtain ⟨b1, b2⟩ := b; cases b1 <;> cases b2 <;> first | exact Imp.refl _ | exact imp_ren qN (by kernel_rfl)) ?_ (fun q ⟨hq1, hq2, hq3⟩ => ?_) | fail) | (show thenQ _ _ _ _; first | refine then_n ?_ | refine then_r ?_ | refine then_x ?_ | fail) | (show blockQ _ _ _ _; first | refine block_n ?_ | refine block_r ?_ | refine block_x rfl ?_ | fail) | (show RetQ _ _ _ _ _ _; first | refine ret_leaf (.inl rfl) rfl rfl ?_ | fail) | (show DRun _ _ _ _ _ _ _ _; first | refine d_nil (by kernel_rfl) ?_ | refine d_e envOk rfl rfl rfl (step3_plain rfl rfl) ?_ | (show DRun _ _ _ _ (Oper.mk _ (Op.indexAddr _ _ _) _ _ _ (_) :: _) _ _ _; first | refine d_e envOk rfl rfl rfl (step3_idx rfl rfl rfl rfl rfl (by first | omega | ((try simp only [decide_eq_true_eq, decide_eq_false_iff_not, Bool.not_eq_true', Bool.not_true, Bool.not_false, List.length_map, List.length_set, bne_iff_ne, ne_eq, beq_iff_eq, bne_eq_false_iff_eq, beq_eq_false_iff_ne] at *); omega)) (at_map (by first | omega | ((try simp only [decide_eq_true_eq, decide_eq_false_iff_not, Bool.not_eq_true', Bool.not_true, Bool.not_false, List.length_map, List.length_set, bne_iff_ne, ne_eq, beq_iff_eq, bne_eq_false_iff_eq, beq_eq_false_iff_ne] at *); omega)))) ?_ | fail) | (show DRun _ _ _ _ (Oper.mk _ (Op.call _) _ _ _ (_) :: _) _ _ _; first | refine d_l rfl rfl (loc_callF' rfl rfl rfl rfl rfl rfl (c113 _ _ _ _) rfl) ?_ | refine d_l rfl rfl (loc_callF' rfl rfl rfl rfl rfl rfl (c114 _ _) rfl) ?_ | fail) | fail) | (show Exists _; first | refine Exists.intro ((q.1 + 1, q.2.take q.1 ++ [[.str (at_ names q.1), .int .i64 (at_ a.attrs (idxGo (fun x : Attr => x.name == at_ names q.1) a.attrs 0).toNat).type]])) (Exists.intro (false, false) ⟨?_, ?_, (by first | exact subL_nil | exact (subL_cons rfl subL_nil) | exact (subL_cons rfl (subL_cons rfl subL_nil)) | exact (subL_cons rfl (subL_cons rfl (subL_cons rfl subL_nil))) | exact (subL_cons rfl (subL_cons rfl (subL_cons rfl (subL_cons rfl subL_nil)))) | exact (subL_cons rfl (subL_cons rfl (subL_cons rfl (subL_cons rfl (subL_cons rfl subL_nil))))) | exact (subL_cons rfl (subL_cons rfl (subL_cons rfl (subL_cons rfl (subL_cons rfl (subL_cons rfl subL_nil)))))) | exact (subL_cons rfl (subL_cons rfl (subL_cons rfl (subL_cons rfl (subL_cons rfl (subL_cons rfl (subL_cons rfl subL_nil))))))) | exact (subL_cons rfl (subL_cons rfl (subL_cons rfl (subL_cons rfl (subL_cons rfl (subL_cons rfl (subL_cons rfl (subL_cons rfl subL_nil))))))))), (subL_cons rfl (subL_cons rfl subL_nil)), (subL_cons rfl (subL_cons rfl (subL_cons rfl (subL_cons rfl (subL_cons rfl subL_nil)))))⟩) | refine Exists.intro ((q.1 + 1, q.2.take q.1 ++ [[.str (at_ names q.1), .int .i64 2]])) (Exists.intro (false, false) ⟨?_, ?_, (by first | exact subL_nil | exact (subL_cons rfl subL_nil) | exact (subL_cons rfl (subL_cons rfl subL_nil)) | exact (subL_cons rfl (subL_cons rfl (subL_cons rfl subL_nil))) | exact (subL_cons rfl (subL_cons rfl (subL_cons rfl (subL_cons rfl subL_nil)))) | exact (subL_cons rfl (subL_cons rfl (subL_cons rfl (subL_cons rfl (subL_cons rfl subL_nil))))) | exact (subL_cons rfl (subL_cons rfl (subL_cons rfl (subL_cons rfl (subL_cons rfl (subL_cons rfl subL_nil)))))) | exact (subL_cons rfl (subL_cons rfl (subL_cons rfl (subL_cons rfl (subL_cons rfl (subL_cons rfl (subL_cons rfl subL_nil))))))) | exact (subL_cons rfl (subL_cons rfl (subL_cons rfl (subL_cons rfl (subL_cons rfl (subL_cons rfl (subL_cons rfl (subL_cons rfl subL_nil))))))))), (subL_cons rfl (subL_cons rfl subL_nil)), (subL_cons rfl (subL_cons rfl (subL_cons rfl (subL_cons rfl (subL_cons rfl subL_nil)))))⟩) | fail) | fail)
  · exact ⟨Nat.zero_le _, rfl, rfl⟩
  all_goals (try rw [Int.toNat_natCast] at *)
  · have hlt : q.1 < names.length := by simpa using ‹decide ((q.1 : Int) < ((names.map encName).length : Int)) = true›
    have hs := keptErr_step (a := a) (n := at_ names q.1) (r := names.drop (q.1 + 1))
    rw [← at_drop hlt, ← hq3, if_pos (known_no h)] at hs
    rw [red_err hc h1 h3 (redErr_kept hse hs (by decide)) (by decide)]
    rfl
  · have hlt : q.1 < names.length := by simpa using ‹decide ((q.1 : Int) < ((names.map encName).length : Int)) = true›
    have hk := known_at hA h
    have h0 := atX_pos h
    have e : srcT a.attrs (srcF a.dims a.attrs (at_ names q.1)) = (at_ a.attrs (idxGo (fun x : Attr => x.name == at_ names q.1) a.attrs 0).toNat).type := by rw [hk]; rfl
    refine ⟨hlt, ?_, ?_⟩
    · show q.2.take q.1 ++ [[.str _, .int .i64 _]] = _
      rw [← e]; exact row_app (fun x => encAttr ⟨x, srcT a.attrs (srcF a.dims a.attrs x)⟩) names hq2 hlt
    · rw [hq3, at_drop hlt, keptErr_step, if_neg (by rw [hk]; show ¬ idxGo _ _ _ < 0; omega)]
  · have hlt : q.1 < names.length := by simpa using ‹decide ((q.1 : Int) < ((names.map encName).length : Int)) = true›
    show names.length - (q.1 + 1) < names.length - q.1
    omega
  · have hlt : q.1 < names.length := by simpa using ‹decide ((q.1 : Int) < ((names.map encName).length : Int)) = true›
    obtain ⟨hk, h0⟩ := known_dim (by assumption) h
    have e : srcT a.attrs (srcF a.dims a.attrs (at_ names q.1)) = 2 := by rw [hk]; rfl
    refine ⟨hlt, ?_, ?_⟩
    · show q.2.take q.1 ++ [[.str _, .int .i64 _]] = _
      rw [← e]; exact row_app (fun x => encAttr ⟨x, srcT a.attrs (srcF a.dims a.attrs x)⟩) names hq2 hlt
    · rw [hq3, at_drop hlt, keptErr_step, if_neg (by rw [hk]; exact h0)]
  · have hlt : q.1 < names.length := by simpa using ‹decide ((q.1 : Int) < ((names.map encName).length : Int)) = true›
    show names.length - (q.1 + 1) < names.length - q.1
    omega
  · have hqn : q.1 = names.length := by
      have : names.length ≤ q.1 := by simpa using ‹decide ((q.1 : Int) < ((names.map encName).length : Int)) = false›
      omega
    have hke : keptErr a names = 0 := by rw [hq3, hqn, List.drop_length]; rfl
    have hsn : schemaF ds (listF a names) ≠ 0 := by simpa using h
    rw [red_err hc h1 h3 (redErr_sch hse hke) hsn]
    rfl
  have hqn : q.1 = names.length := by
    have : names.length ≤ q.1 := by simpa using ‹decide ((q.1 : Int) < ((names.map encName).length : Int)) = false›
    omega
  have hke : keptErr a names = 0 := by rw [hq3, hqn, List.drop_length]; rfl
  have hsc : schemaF ds (listF a names) = 0 := by simpa using h
  have hre : redErr a ds names = 0 := (redErr_sch hse hke).trans hsc
  have hd4 : ds.length ≤ 4 := (dimsF_ok (schemaF_ok hsc).1).2.1
  have hsk : ∀ i, i < ds.length → ¬ (srcF a.dims a.attrs (at_ ds i).name).1 < 0 := fun i hi => srcErr_ok hse _ (at_mem hi)
  have hso : ∀ j, j < a.cells.length → ∀ i, i < ds.length → okS (srcF a.dims a.attrs (at_ ds i).name) (at_ a.cells j) := fun j hj i hi => src_okS hA (hsk i hi) (at_mem hj)
  have hkk : ∀ i, i < names.length → ¬ (srcF a.dims a.attrs (at_ names i)).1 < 0 := fun i hi => keptErr_ok hke _ (at_mem hi)
  have hks : ∀ i j, i < names.length → j < a.cells.length → okS (srcF a.dims a.attrs (at_ names i)) (at_ a.cells j) := fun i j hi hj => src_okS hA (hkk i hi) (at_mem hj)
  have hcn : a.cells.length ≤ 4096 := hA.few
  have hkn : names.length ≤ 6 := by have := (schemaF_ok hsc).2.2.1; simpa [listF] using this
  have hcl : ∀ j, j < a.cells.length → (at_ a.cells j).at'.length = a.dims.length ∧ (at_ a.cells j).vals.length = a.attrs.length := fun j hj => by
    obtain ⟨e1, e2, e3, e4⟩ := cellF_ok.1 (hA.cel _ (at_mem hj))
    exact ⟨by omega, by omega⟩
  clear h hq1 hq2 hq3 hqn
  refine okc_imp (st' := ⟨[(1, .one (.d (encDims ds))), (2, .one (.d (encNames names))), (3, .one (.d (.int .i64 rule))), (4, .one (.ref 0 0)), (8, .one (.ref 1 0)), (11, .one (.d (encAttrs (listF a names)))), (15, .one (.d (encCells []))), (16, .one (.d (.int .i64 0)))], [(0, .box [.d (encDims a.dims), .d (encAttrs a.attrs), .d (encCells a.cells)]), (1, .box [.d .nil, .d .nil, .d .nil])]⟩) (Imp.trans (imp_adopt (s := 15) (id := 15) (k := 2) (b := 48) rfl rfl rfl rfl) (Imp.trans (imp_sealL (dl := [15]) rfl) (imp_sub (subL_cons rfl (subL_cons rfl (subL_cons rfl (subL_cons rfl (subL_cons rfl (subL_cons rfl (subL_cons rfl (subL_cons rfl subL_nil)))))))) (subL_cons rfl (subL_cons rfl subL_nil))))) ?_
  repeat' (first | (show OkOps _ _ _ _ _ _; first | (show OkOps _ _ _ (Oper.mk _ (Op.call { callee := .value (.func 117), args := _, argTypes := _ }) _ _ _ (_) :: _) _ _; first | (fail_if_success (have := hfo)); by_cases hfo : foundF p.2 (numsF (fromF a ds) (at_ a.cells (p.1 : Int).toNat)) = true | fail) | (show OkOps _ _ _ (Oper.mk _ (Op.call _) _ _ _ (_) :: _) _ _; first | refine s_callD 16 rfl rfl rfl rfl rfl rfl rfl rfl (c119e p.2 (nextF (keptF a names) (numsF (fromF a ds) (at_ a.cells p.1)) (at_ a.cells p.1)) _ (vals_row hr2 (by first | omega | ((try simp only [decide_eq_true_eq, decide_eq_false_iff_not, Bool.not_eq_true', Bool.not_true, Bool.not_false, List.length_map, List.length_set, bne_iff_ne, ne_eq, beq_iff_eq, bne_eq_false_iff_eq, beq_eq_false_iff_ne] at *); omega))) hi2 (by omega)) rfl rfl rfl ?_ | fail) | (show OkOps _ _ _ (Oper.mk _ (Op.call _) _ _ _ (_) :: _) _ _; first | refine s_callD 16 rfl rfl rfl rfl rfl rfl rfl rfl (c101k ds (listF a names) p.2 (diff_of_sorted hi2) hdl (by simp [listF]; omega) hi5 (by omega)) rfl rfl rfl ?_ | fail) | refine okops_nil ?_ | refine s_plain tabOk rfl rfl rfl rfl rfl ?_ | (show OkOps _ _ _ (Oper.mk _ (_) _ _ _ (some _) :: _) _ _; first | refine s_guard rfl rfl (by first | assumption | rfl) ?_ | refine s_out rfl rfl (by first | assumption | rfl) rfl rfl ?_ | fail) | (show OkOps _ _ _ (Oper.mk _ (Op.binOp .add _ _ _ _) _ _ _ (_) :: _) _ _; first | refine s_e envOk rfl rfl rfl (step3_add rfl rfl rfl rfl (wrap64 (by omega) (by omega))) ?_ | fail) | (show OkOps _ _ _ (Oper.mk _ (Op.pick _ _ _) _ _ _ (_) :: _) _ _; first | refine s_e envOk rfl rfl rfl (step3_pickT rfl rfl (by first | rfl | assumption) rfl) ?_ | refine s_e envOk rfl rfl rfl (step3_pickF rfl rfl (by first | rfl | assumption) rfl) ?_ | fail) | (show OkOps _ _ _ (Oper.mk _ (Op.call _) _ _ _ (_) :: _) _ _; first | refine s_callF rfl rfl rfl rfl rfl rfl rfl rfl (c117y p.2 _ hi2 (by assumption)) rfl ?_ | refine s_callF rfl rfl rfl rfl rfl rfl rfl rfl (c117n p.2 _ hi2 (by assumption)) rfl ?_ | fail) | (show OkOps _ _ _ (Oper.mk _ (Op.alloc _) _ _ _ (_) :: _) _ _; first | refine s_alloc tabOk 2 rfl rfl rfl rfl rfl ?_ | fail) | refine s_store envOk rfl rfl rfl ?_ | fail) | (show OkC _ _ _ _ _; first | (show OkC _ _ (Code.region 38 _ _) _ _; refine okc_imp (imp_sealL (dl := [10]) rfl) ?_) | refine ok_seq ?_ | refine ok_region ?_ | refine ok_block ?_ | refine ok_skip ?_ | refine ok_ret ?_ | refine ok_exit ?_ | refine ok_condT rfl ?_ | refine ok_condF rfl ?_ | refine ok_cond rfl (fun h => ?_) (fun h => ?_) | refine ok_regionD progOk.mo ?_ | refine s_loopN 32 rfl (imp_adoptJ 2 1 10 (k := 4) (b := 40) rfl rfl (by kernel_rfl)) [(1, _), (2, _), (3, _), (4, _), (8, _), (11, _), (15, _), (16, _), (20, _)] (subL_cons rfl (subL_cons rfl (subL_cons rfl (subL_cons rfl (subL_cons rfl (subL_cons rfl (subL_cons rfl (subL_cons rfl (subL_cons rfl subL_nil))))))))) (fun (bN : Bool × Bool) (r : Nat × List (List D)) => [(21, .one (.d (.int .i64 (r.1 : Int))))]) (fun (bN : Bool × Bool) (r : Nat × List (List D)) => [(2, .box [.d (encInts (numsF (fromF a ds) (at_ a.cells p.1))), .own (nmA bN) r.1]), ((nmA bN), .row 4 40 r.2), (0, .box [.d (encDims a.dims), .d (encAttrs a.attrs), .d (encCells a.cells)]), (1, .box [.d .nil, .d .nil, .d .nil])]) (fun (r : Nat × List (List D)) => r.1 ≤ names.length ∧ r.2 = (names.take r.1).map (fun m => encVal (ofS (srcF a.dims a.attrs m) (at_ a.cells p.1)))) (fun (r : Nat × List (List D)) => names.length - r.1) (0, []) (subL_cons rfl subL_nil) (by first | exact subL_nil | exact (subL_cons rfl subL_nil) | exact (subL_cons rfl (subL_cons rfl subL_nil)) | exact (subL_cons rfl (subL_cons rfl (subL_cons rfl subL_nil))) | exact (subL_cons rfl (subL_cons rfl (subL_cons rfl (subL_cons rfl subL_nil)))) | exact (subL_cons rfl (subL_cons rfl (subL_cons rfl (subL_cons rfl (subL_cons rfl subL_nil))))) | exact (subL_cons rfl (subL_cons rfl (subL_cons rfl (subL_cons rfl (subL_cons rfl (subL_cons rfl subL_nil)))))) | exact (subL_cons rfl (subL_cons rfl (subL_cons rfl (subL_cons rfl (subL_cons rfl (subL_cons rfl (subL_cons rfl subL_nil))))))) | exact (subL_cons rfl (subL_cons rfl (subL_cons rfl (subL_cons rfl (subL_cons rfl (subL_cons rfl (subL_cons rfl (subL_cons rfl subL_nil))))))))) (fun b y => by obtain ⟨b1, b2⟩ := b; cases b1 <;> cases b2 <;> first | exact Imp.refl _ | exact imp_ren qN (by kernel_rfl)) ?_ (fun r ⟨hr1, hr2⟩ => ?_) | refine s_loopM 22 rfl [(1, _), (2, _), (3, _), (4, _), (8, _), (11, _)] (subL_cons rfl (subL_cons rfl (subL_cons rfl (subL_cons rfl (subL_cons rfl (subL_cons rfl subL_nil)))))) (fun (p : Nat × List Cell) => [(15, .one (.d (encCells p.2))), (16, .one (.d (.int .i64 (p.1 : Int))))]) (fun (p : Nat × List Cell) => [(0, .box [.d (encDims a.dims), .d (encAttrs a.attrs), .d (encCells a.cells)]), (1, .box [.d .nil, .d .nil, .d .nil])]) (fun (p : Nat × List Cell) => p.1 ≤ a.cells.length ∧ p.2.Pairwise ltC ∧ p.2.length ≤ p.1 ∧ refGo (fromF a ds) (keptF a names) ds rule [] a.cells = refGo (fromF a ds) (keptF a names) ds rule p.2 (a.cells.drop p.1) ∧ (∀ c ∈ p.2, smallC c)) (fun (p : Nat × List Cell) => a.cells.length - p.1) (0, []) (subL_cons rfl (subL_cons rfl subL_nil)) (by first | exact subL_nil | exact (subL_cons rfl subL_nil) | exact (subL_cons rfl (subL_cons rfl subL_nil)) | exact (subL_cons rfl (subL_cons rfl (subL_cons rfl subL_nil))) | exact (subL_cons rfl (subL_cons rfl (subL_cons rfl (subL_cons rfl subL_nil)))) | exact (subL_cons rfl (subL_cons rfl (subL_cons rfl (subL_cons rfl (subL_cons rfl subL_nil))))) | exact (subL_cons rfl (subL_cons rfl (subL_cons rfl (subL_cons rfl (subL_cons rfl (subL_cons rfl subL_nil)))))) | exact (subL_cons rfl (subL_cons rfl (subL_cons rfl (subL_cons rfl (subL_cons rfl (subL_cons rfl (subL_cons rfl subL_nil))))))) | exact (subL_cons rfl (subL_cons rfl (subL_cons rfl (subL_cons rfl (subL_cons rfl (subL_cons rfl (subL_cons rfl (subL_cons rfl subL_nil))))))))) ?_ (fun p ⟨hi1, hi2, hi3, hi4, hi5⟩ => ?_) | fail) | (show thenQ _ _ _ _; first | refine then_n ?_ | refine then_r ?_ | refine then_x ?_ | fail) | (show blockQ _ _ _ _; first | refine block_n ?_ | refine block_r ?_ | refine block_x rfl ?_ | fail) | (show RetQ _ _ _ _ _ _; first | refine ret_leaf (.inl rfl) rfl rfl ?_ | fail) | (show DRun _ _ _ _ _ _ _ _; first | (show DRun _ _ _ _ (Oper.mk _ (Op.call _) _ _ _ (_) :: _) _ _ _; first | refine d_callD 16 rfl rfl rfl rfl rfl rfl rfl rfl (c116y a (at_ a.cells (p.1 : Int).toNat) ds (by omega) hsk (hso _ (by first | omega | ((try simp only [decide_eq_true_eq, decide_eq_false_iff_not, Bool.not_eq_true', Bool.not_true, Bool.not_false, List.length_map, List.length_set, bne_iff_ne, ne_eq, beq_iff_eq, bne_eq_false_iff_eq, beq_eq_false_iff_ne] at *); omega))) (by assumption)) rfl rfl ?_ | fail) | (show DRun _ _ _ _ (Oper.mk _ (Op.call _) _ _ _ (_) :: _) _ _ _; first | refine d_callD 16 rfl rfl rfl rfl rfl rfl rfl rfl (c116n a (at_ a.cells (p.1 : Int).toNat) ds (by omega) hsk (hso _ (by first | omega | ((try simp only [decide_eq_true_eq, decide_eq_false_iff_not, Bool.not_eq_true', Bool.not_true, Bool.not_false, List.length_map, List.length_set, bne_iff_ne, ne_eq, beq_iff_eq, bne_eq_false_iff_eq, beq_eq_false_iff_ne] at *); omega))) (by assumption)) rfl rfl ?_ | fail) | (show DRun _ _ _ _ (Oper.mk _ (Op.call { callee := .value (.func 116), args := _, argTypes := _ }) _ _ _ (_) :: _) _ _ _; first | (fail_if_success (have := hmk)); by_cases hmk : ((fromF a ds).all fun s => (ofS s (at_ a.cells (p.1 : Int).toNat)).kind == 2) = true | fail) | (show DRun _ _ _ _ (Oper.mk _ (Op.indexAddr _ _ _) _ _ _ (_) :: _) _ _ _; first | refine d_e envOk rfl rfl rfl (step3_idx rfl rfl rfl rfl rfl (atX_pos (by assumption)) (at_map (dimS_lt (hcl _ (by first | omega | ((try simp only [decide_eq_true_eq, decide_eq_false_iff_not, Bool.not_eq_true', Bool.not_true, Bool.not_false, List.length_map, List.length_set, bne_iff_ne, ne_eq, beq_iff_eq, bne_eq_false_iff_eq, beq_eq_false_iff_ne] at *); omega))).1 (by assumption)))) ?_ | fail) | (show DRun _ _ _ _ (Oper.mk _ (Op.indexAddr _ _ _) _ _ _ (_) :: _) _ _ _; first | refine d_e envOk rfl rfl rfl (step3_idx rfl rfl rfl rfl rfl (atS_pos (hkk _ (by first | omega | ((try simp only [decide_eq_true_eq, decide_eq_false_iff_not, Bool.not_eq_true', Bool.not_true, Bool.not_false, List.length_map, List.length_set, bne_iff_ne, ne_eq, beq_iff_eq, bne_eq_false_iff_eq, beq_eq_false_iff_ne] at *); omega))) (by assumption)) (at_map (atS_lt (hcl _ (by first | omega | ((try simp only [decide_eq_true_eq, decide_eq_false_iff_not, Bool.not_eq_true', Bool.not_true, Bool.not_false, List.length_map, List.length_set, bne_iff_ne, ne_eq, beq_iff_eq, bne_eq_false_iff_eq, beq_eq_false_iff_ne] at *); omega))).2 (atS_pos (hkk _ (by first | omega | ((try simp only [decide_eq_true_eq, decide_eq_false_iff_not, Bool.not_eq_true', Bool.not_true, Bool.not_false, List.length_map, List.length_set, bne_iff_ne, ne_eq, beq_iff_eq, bne_eq_false_iff_eq, beq_eq_false_iff_ne] at *); omega))) (by assumption))))) ?_ | fail) | (show DRun _ _ _ _ (Oper.mk _ (Op.call _) _ _ _ (_) :: _) _ _ _; first | refine d_new envOk 11 rfl rfl rfl (step3_appendB (i := 10) rfl rfl rfl rfl rfl rfl rfl rfl (by first | omega | ((try simp only [decide_eq_true_eq, decide_eq_false_iff_not, List.length_map, List.length_cons, List.length_nil, List.length_append, List.length_take, List.length_drop, Int.toNat_natCast] at *); omega)) (by first | exact Nat.le_of_ble_eq_true rfl | omega | ((try simp only [decide_eq_true_eq, decide_eq_false_iff_not, List.length_map, List.length_cons, List.length_nil, List.length_append, List.length_take, List.length_drop, Int.toNat_natCast] at *); omega)) (Nat.le_of_ble_eq_true rfl)) rfl rfl ?_ | fail) | refine d_nil (by kernel_rfl) ?_ | refine d_e envOk rfl rfl rfl (step3_plain rfl rfl) ?_ | (show DRun _ _ _ _ (Oper.mk _ (Op.indexAddr _ _ _) _ _ _ (_) :: _) _ _ _; first | refine d_e envOk rfl rfl rfl (step3_idx rfl rfl rfl rfl rfl (by first | omega | ((try simp only [decide_eq_true_eq, decide_eq_false_iff_not, Bool.not_eq_true', Bool.not_true, Bool.not_false, List.length_map, List.length_set, bne_iff_ne, ne_eq, beq_iff_eq, bne_eq_false_iff_eq, beq_eq_false_iff_ne] at *); omega)) (at_map (by first | omega | ((try simp only [decide_eq_true_eq, decide_eq_false_iff_not, Bool.not_eq_true', Bool.not_true, Bool.not_false, List.length_map, List.length_set, bne_iff_ne, ne_eq, beq_iff_eq, bne_eq_false_iff_eq, beq_eq_false_iff_ne] at *); omega)))) ?_ | fail) | (show DRun _ _ _ _ (Oper.mk _ (Op.call _) _ _ _ (_) :: _) _ _ _; first | refine d_l rfl rfl (loc_callF' rfl rfl rfl rfl rfl rfl (c118 _ _) rfl) ?_ | refine d_l rfl rfl (loc_callF' rfl rfl rfl rfl rfl rfl (c114 _ _) rfl) ?_ | fail) | refine d_new envOk 3 rfl rfl rfl rfl rfl rfl ?_ | refine d_store envOk rfl rfl rfl ?_ | fail) | (show Exists _; first | refine Exists.intro ((p.1 + 1, putF p.2 (nextF (keptF a names) (numsF (fromF a ds) (at_ a.cells p.1)) (at_ a.cells p.1)))) ⟨?_, ?_, (by first | exact subL_nil | exact (subL_cons rfl subL_nil) | exact (subL_cons rfl (subL_cons rfl subL_nil)) | exact (subL_cons rfl (subL_cons rfl (subL_cons rfl subL_nil))) | exact (subL_cons rfl (subL_cons rfl (subL_cons rfl (subL_cons rfl subL_nil)))) | exact (subL_cons rfl (subL_cons rfl (subL_cons rfl (subL_cons rfl (subL_cons rfl subL_nil))))) | exact (subL_cons rfl (subL_cons rfl (subL_cons rfl (subL_cons rfl (subL_cons rfl (subL_cons rfl subL_nil)))))) | exact (subL_cons rfl (subL_cons rfl (subL_cons rfl (subL_cons rfl (subL_cons rfl (subL_cons rfl (subL_cons rfl subL_nil))))))) | exact (subL_cons rfl (subL_cons rfl (subL_cons rfl (subL_cons rfl (subL_cons rfl (subL_cons rfl (subL_cons rfl (subL_cons rfl subL_nil))))))))), (subL_cons rfl (subL_cons rfl subL_nil)), (subL_cons rfl (subL_cons rfl (subL_cons rfl (subL_cons rfl (subL_cons rfl (subL_cons rfl subL_nil))))))⟩ | refine Exists.intro ((p.1 + 1, p.2)) ⟨?_, ?_, (by first | exact subL_nil | exact (subL_cons rfl subL_nil) | exact (subL_cons rfl (subL_cons rfl subL_nil)) | exact (subL_cons rfl (subL_cons rfl (subL_cons rfl subL_nil))) | exact (subL_cons rfl (subL_cons rfl (subL_cons rfl (subL_cons rfl subL_nil)))) | exact (subL_cons rfl (subL_cons rfl (subL_cons rfl (subL_cons rfl (subL_cons rfl subL_nil))))) | exact (subL_cons rfl (subL_cons rfl (subL_cons rfl (subL_cons rfl (subL_cons rfl (subL_cons rfl subL_nil)))))) | exact (subL_cons rfl (subL_cons rfl (subL_cons rfl (subL_cons rfl (subL_cons rfl (subL_cons rfl (subL_cons rfl subL_nil))))))) | exact (subL_cons rfl (subL_cons rfl (subL_cons rfl (subL_cons rfl (subL_cons rfl (subL_cons rfl (subL_cons rfl (subL_cons rfl subL_nil))))))))), (subL_cons rfl (subL_cons rfl subL_nil)), (subL_cons rfl (subL_cons rfl (subL_cons rfl (subL_cons rfl (subL_cons rfl (subL_cons rfl subL_nil))))))⟩ | refine Exists.intro ((r.1 + 1, r.2.take r.1 ++ [[.int .i64 2, .int .i64 (at_ (at_ a.cells p.1).at' (idxGo (fun x : Dim => x.name == at_ names r.1) a.dims 0).toNat), .int .i64 1, .str []]])) (Exists.intro (true, false) ⟨?_, ?_, (by first | exact subL_nil | exact (subL_cons rfl subL_nil) | exact (subL_cons rfl (subL_cons rfl subL_nil)) | exact (subL_cons rfl (subL_cons rfl (subL_cons rfl subL_nil))) | exact (subL_cons rfl (subL_cons rfl (subL_cons rfl (subL_cons rfl subL_nil)))) | exact (subL_cons rfl (subL_cons rfl (subL_cons rfl (subL_cons rfl (subL_cons rfl subL_nil))))) | exact (subL_cons rfl (subL_cons rfl (subL_cons rfl (subL_cons rfl (subL_cons rfl (subL_cons rfl subL_nil)))))) | exact (subL_cons rfl (subL_cons rfl (subL_cons rfl (subL_cons rfl (subL_cons rfl (subL_cons rfl (subL_cons rfl subL_nil))))))) | exact (subL_cons rfl (subL_cons rfl (subL_cons rfl (subL_cons rfl (subL_cons rfl (subL_cons rfl (subL_cons rfl (subL_cons rfl subL_nil))))))))), (subL_cons rfl subL_nil), (subL_cons rfl (subL_cons rfl (subL_cons rfl (subL_cons rfl (subL_cons rfl (subL_cons rfl (subL_cons rfl (subL_cons rfl (subL_cons rfl subL_nil)))))))))⟩) | refine Exists.intro ((r.1 + 1, r.2.take r.1 ++ [encVal (at_ (at_ a.cells p.1).vals (idxGo (fun x : Attr => x.name == at_ names r.1) a.attrs 0).toNat)])) (Exists.intro (true, false) ⟨?_, ?_, (by first | exact subL_nil | exact (subL_cons rfl subL_nil) | exact (subL_cons rfl (subL_cons rfl subL_nil)) | exact (subL_cons rfl (subL_cons rfl (subL_cons rfl subL_nil))) | exact (subL_cons rfl (subL_cons rfl (subL_cons rfl (subL_cons rfl subL_nil)))) | exact (subL_cons rfl (subL_cons rfl (subL_cons rfl (subL_cons rfl (subL_cons rfl subL_nil))))) | exact (subL_cons rfl (subL_cons rfl (subL_cons rfl (subL_cons rfl (subL_cons rfl (subL_cons rfl subL_nil)))))) | exact (subL_cons rfl (subL_cons rfl (subL_cons rfl (subL_cons rfl (subL_cons rfl (subL_cons rfl (subL_cons rfl subL_nil))))))) | exact (subL_cons rfl (subL_cons rfl (subL_cons rfl (subL_cons rfl (subL_cons rfl (subL_cons rfl (subL_cons rfl (subL_cons rfl subL_nil))))))))), (subL_cons rfl subL_nil), (subL_cons rfl (subL_cons rfl (subL_cons rfl (subL_cons rfl (subL_cons rfl (subL_cons rfl (subL_cons rfl (subL_cons rfl (subL_cons rfl subL_nil)))))))))⟩) | fail) | fail)
  all_goals (try rw [Int.toNat_natCast] at *)
  all_goals first
    | exact ⟨Nat.zero_le _, .nil, Nat.le_refl _, rfl, fun c hc => by cases hc⟩
    | exact ⟨Nat.zero_le _, rfl⟩
    | (have hlt : r.1 < names.length := by simpa using ‹decide ((r.1 : Int) < ((names.map encName).length : Int)) = true›
       show names.length - (r.1 + 1) < names.length - r.1
       omega)
    | (have hlt : p.1 < a.cells.length := by simpa using ‹decide ((p.1 : Int) < ((a.cells.map encCell).length : Int)) = true›
       show a.cells.length - (p.1 + 1) < a.cells.length - p.1
       omega)
    | (have hlr : r.1 < names.length := by simpa using ‹decide ((r.1 : Int) < ((names.map encName).length : Int)) = true›
       refine ⟨hlr, ?_⟩
       have e := row_app (fun m => encVal (ofS (srcF a.dims a.attrs m) (at_ a.cells p.1))) names hr2 hlr
       first
         | (have hx := srcF_dim h; simp only [hx] at e; exact e)
         | (have hx := srcF_attr h; simp only [hx] at e; exact e))
    | (have hlt : p.1 < a.cells.length := by simpa using ‹decide ((p.1 : Int) < ((a.cells.map encCell).length : Int)) = true›
       refine ⟨hlt, hi2, Nat.le_succ_of_le hi3, ?_, hi5⟩
       rw [hi4, at_drop hlt]
       first
         | exact ref_go (ref_skip (moved_out hmk (by assumption)))
         | exact ref_go (ref_skip (moved_not hmk))
         | exact ref_go (ref_two (moved_in hmk (by assumption)) hfo (by assumption) (by assumption)))
    | (have hlt : p.1 < a.cells.length := by simpa using ‹decide ((p.1 : Int) < ((a.cells.map encCell).length : Int)) = true›
       rw [ref_conflict hc h1 h3 hre (by rw [hi4, at_drop hlt]; exact ref_stop (ref_one (moved_in hmk (by assumption)) hfo (by assumption)))]
       rfl)
    | (have hlt : p.1 < a.cells.length := by simpa using ‹decide ((p.1 : Int) < ((a.cells.map encCell).length : Int)) = true›
       refine ⟨hlt, putF_sorted hi2, Nat.le_trans putF_len (Nat.succ_le_succ hi3), ?_, putF_small hi5 (next_small (by simp [numsF, fromF]; omega) (by simp [keptF]; omega))⟩
       rw [hi4, at_drop hlt]
       exact ref_go (ref_put (moved_in hmk (by assumption)) fun hf => by first | exact ⟨by assumption, by assumption⟩ | exact absurd hf hfo))
    | (have hge : a.cells.length ≤ p.1 := by simpa using ‹decide ((p.1 : Int) < ((a.cells.map encCell).length : Int)) = false›
       rw [ref_end hc h1 h3 hre (by rw [hi4, List.drop_eq_nil_of_le hge]; rfl), sortF_id hi2]
       rfl)
    | skip
end Go.Proofs.YtpejdgkaapnekaaGreat
