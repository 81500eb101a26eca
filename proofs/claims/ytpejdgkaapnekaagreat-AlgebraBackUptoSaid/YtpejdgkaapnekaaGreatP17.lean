import Derived.Test.YtpejdgkaapnekaaGreatP7
import Derived.Test.YtpejdgkaapnekaaGreatKZ
import Derived.Test.YtpejdgkaapnekaaGreatP8
import Derived.Test.YtpejdgkaapnekaaGreatP6
set_option linter.unusedVariables false
set_option linter.unusedSimpArgs false
namespace Go.Proofs.YtpejdgkaapnekaaGreat
open Go Go.Abs
attribute [local irreducible] OkOps OkC DRun thenQ blockQ RetQ
set_option maxRecDepth 10000
theorem c19 : CallA Tryz.prog 19 [] [] (.one (.d (.bool true))) [] := k445
theorem c32t (a : Arr) (h : chkA a = 0) : CallA Tryz.prog 32 [aggA a, aggA a] [] (.one (.d (.bool true))) [] := by
  have h1 := c32 a a
  have e : spSame a a = true := by
    unfold spSame
    rw [(sameF_eq eqDim_iff).2 rfl, (sameF_eq eqAttr_iff).2 rfl, (sameF_eq eqCell_iff).2 rfl, h]
    rfl
  rw [e] at h1
  exact h1
end Go.Proofs.YtpejdgkaapnekaaGreat
namespace Go.Proofs.YtpejdgkaapnekaaGreat
open Go Go.Abs
attribute [local irreducible] OkOps OkC DRun thenQ blockQ RetQ
set_option maxRecDepth 10000
end Go.Proofs.YtpejdgkaapnekaaGreat
namespace Go.Proofs.YtpejdgkaapnekaaGreat
open Go Go.Abs
attribute [local irreducible] OkOps OkC DRun thenQ blockQ RetQ
set_option maxRecDepth 10000
theorem arr_some {P : Program} {f : FuncId} {args : List AV} {r : Option Arr × Int} {y : Arr} (h : CallA P f args [] (arrE r) []) (e : r = (some y, 0)) : CallA P f args [] (.tup [(true, [.d (encDims y.dims), .d (encAttrs y.attrs), .d (encCells y.cells)]), (false, [.d (.int .i64 0)])]) [] := by
  rw [e] at h; exact h
theorem arr_none {P : Program} {f : FuncId} {args : List AV} {r : Option Arr × Int} {e : Int} (h : CallA P f args [] (arrE r) []) (he : r = (none, e)) : CallA P f args [] (.tup [(true, [.d .nil, .d .nil, .d .nil]), (false, [.d (.int .i64 e)])]) [] := by
  rw [he] at h; exact h
end Go.Proofs.YtpejdgkaapnekaaGreat
namespace Go.Proofs.YtpejdgkaapnekaaGreat
open Go Go.Abs
attribute [local irreducible] OkOps OkC DRun thenQ blockQ RetQ
set_option maxRecDepth 10000
theorem tran_two_ (a : Arr) (names : List (List UInt8)) (hc : chkA a = 0) : (∃ e, (e == 0) = false ∧ transF a names = (none, e)) ∨ (Tran a names ∧ transF a names = (some (tranA a names), 0)) := by
  rcases transF_cases a names hc with ⟨e, h1, h2⟩ | h
  · exact .inl ⟨e, by simpa using h1, h2⟩
  · exact .inr h
theorem ren_two_ (a : Arr) (n m : List UInt8) (hc : chkA a = 0) : (∃ e, (e == 0) = false ∧ renF a n m = (none, e)) ∨ (Ren a n m ∧ renF a n m = (some (renA a n m), 0)) := by
  rcases renF_cases a n m hc with ⟨e, h1, h2⟩ | h
  · exact .inl ⟨e, by simpa using h1, h2⟩
  · exact .inr h
theorem resh_two' (a : Arr) (es : List Dim) (hc : chkA a = 0) : (∃ e, (e == 0) = false ∧ reshF a es = (none, e)) ∨ (reshF a es = (some (reshA a es), 0) ∧ reshF (reshA a es) a.dims = (some a, 0) ∧ ((((reshA a es).cells.map encCell).length : Int) != ((a.cells.map encCell).length : Int)) = false) := by
  rcases reshF_cases a es hc with ⟨e, h1, h2⟩ | ⟨hR, h2, h3, h4, h5⟩
  · exact .inl ⟨e, by simpa using h1, h2⟩
  · exact .inr ⟨h5, reshF_back hR h2 h3 h4, by simp [resh_cells hR]⟩
theorem names_row {ds : List Dim} {n : Nat} {r : List (List D)} (h : r = (ds.take n).map (fun d => encName d.name)) (hn : ds.length ≤ n) : r.take n = (ds.map Dim.name).map encName := by
  rw [h, List.take_of_length_le (by simp; omega), List.take_of_length_le hn, List.map_map]; rfl
set_option maxHeartbeats 8000000 in
theorem c13 (a : Arr) (names : List (List UInt8)) (n m : List UInt8) (es : List Dim) (hnn : names.length ≤ 1048576) (hes : es.length ≤ 1048576) : CallA Tryz.prog 13 [aggA a, .one (.d (encNames names)), .one (.d (.str n)), .one (.d (.str m)), .one (.d (encDims es))] [] (.one (.d (.bool true))) [] := by
  unfold aggA
  refine enter tabOk Tryz.func13 rfl (by decide +kernel) rfl fun hok w0 σ0 φ0 M => ?_
  clear hok
  by_cases h1 : (decide ((100 : Int) < (a.cells.length : Int)) || chkA a != 0) = true
  · repeat' (first | (show OkOps _ _ _ _ _ _; first | refine okops_nil ?_ | refine s_plain tabOk rfl rfl rfl rfl rfl ?_ | (show OkOps _ _ _ (Oper.mk _ (Op.call _) _ _ _ (_) :: _) _ _; first | refine s_callF rfl rfl rfl rfl rfl rfl rfl rfl (c31 _ _) rfl ?_ | refine s_callF rfl rfl rfl rfl rfl rfl rfl rfl (c19) rfl ?_ | fail) | (show OkOps _ _ _ (Oper.mk _ (Op.box _ _) _ _ _ (_) :: _) _ _; first | refine s_box 0 rfl rfl rfl rfl rfl rfl ?_ | fail) | fail) | (show OkC _ _ _ _ _; first | refine ok_seq ?_ | refine ok_region ?_ | refine ok_ret ?_ | refine ok_condKT rfl (by assumption) ?_ | fail) | (show thenQ _ _ _ _; first | refine then_n ?_ | refine then_r ?_ | fail) | (show RetQ _ _ _ _ _ _; first | refine ret_leaf (.inl rfl) rfl rfl ?_ | fail) | fail)
    all_goals rfl
  have hb1 : (decide ((100 : Int) < (a.cells.length : Int)) || chkA a != 0) = false := by simpa using h1
  have hca : chkA a = 0 := by simp at hb1; exact hb1.2
  have hA := okA hca
  have hd4 := hA.dims.2.1
  have hdn : (a.dims.map Dim.name).length ≤ 1048576 := by rw [List.length_map]; omega
  repeat' (first | (show OkOps _ _ _ _ _ _; first | (show OkOps _ _ _ (Oper.mk _ (Op.call { callee := .value (.func 42), args := _, argTypes := _ }) _ _ _ (_) :: _) _ _; first | (fail_if_success (have := hT)); (rcases tran_two_ a names hca with ⟨e1, he1, hT⟩ | ⟨hTr, hT⟩) | fail) | (show OkOps _ _ _ (Oper.mk _ (Op.call { callee := .value (.func 48), args := _, argTypes := _ }) _ _ _ (_) :: _) _ _; first | (fail_if_success (have := hN)); (rcases ren_two_ a n m hca with ⟨e2, he2, hN⟩ | ⟨hNr, hN⟩) | fail) | (show OkOps _ _ _ (Oper.mk _ (Op.call { callee := .value (.func 40), args := _, argTypes := _ }) _ _ _ (_) :: _) _ _; first | (fail_if_success (have := hS)); (rcases resh_two' a es hca with ⟨e3, he3, hS⟩ | ⟨hS, hSb, hSl⟩) | fail) | (show OkOps _ _ _ (Oper.mk _ (Op.call _) _ _ _ (_) :: _) _ _; first | refine s_append tabOk rfl rfl rfl rfl rfl rfl rfl rfl rfl rfl rfl rfl rfl (by first | omega | ((try simp only [decide_eq_true_eq, decide_eq_false_iff_not, List.length_map, List.length_cons, List.length_nil, List.length_append, List.length_take, List.length_drop, Int.toNat_natCast] at *); omega)) (by first | exact Nat.le_of_ble_eq_true rfl | omega | ((try simp only [decide_eq_true_eq, decide_eq_false_iff_not, List.length_map, List.length_cons, List.length_nil, List.length_append, List.length_take, List.length_drop, Int.toNat_natCast] at *); omega)) (Nat.le_of_ble_eq_true rfl) ?_ | fail) | refine okops_nil ?_ | refine s_plain tabOk rfl rfl rfl rfl rfl ?_ | (show OkOps _ _ _ (Oper.mk _ (_) _ _ _ (some _) :: _) _ _; first | refine s_guard rfl rfl (by first | assumption | rfl) ?_ | fail) | (show OkOps _ _ _ (Oper.mk _ (Op.binOp .add _ _ _ _) _ _ _ (_) :: _) _ _; first | refine s_e envOk rfl rfl rfl (step3_add rfl rfl rfl rfl (wrap64 (by omega) (by omega))) ?_ | fail) | (show OkOps _ _ _ (Oper.mk _ (Op.pick _ _ _) _ _ _ (_) :: _) _ _; first | refine s_e envOk rfl rfl rfl (step3_pickF rfl rfl (by first | rfl | assumption) rfl) ?_ | fail) | (show OkOps _ _ _ (Oper.mk _ (Op.indexAddr _ _ _) _ _ _ (_) :: _) _ _; first | refine s_e envOk rfl rfl rfl (step3_idx rfl rfl rfl rfl rfl (by first | omega | ((try simp only [decide_eq_true_eq, decide_eq_false_iff_not, Bool.not_eq_true', Bool.not_true, Bool.not_false, List.length_map, List.length_set, bne_iff_ne, ne_eq, beq_iff_eq, bne_eq_false_iff_eq, beq_eq_false_iff_ne] at *); omega)) (at_map (by first | omega | ((try simp only [decide_eq_true_eq, decide_eq_false_iff_not, Bool.not_eq_true', Bool.not_true, Bool.not_false, List.length_map, List.length_set, bne_iff_ne, ne_eq, beq_iff_eq, bne_eq_false_iff_eq, beq_eq_false_iff_ne] at *); omega)))) ?_ | fail) | (show OkOps _ _ _ (Oper.mk _ (Op.call _) _ _ _ (_) :: _) _ _; first | refine s_callF rfl rfl rfl rfl rfl rfl rfl rfl (c31 _ _) rfl ?_ | refine s_callF rfl rfl rfl rfl rfl rfl rfl rfl (c19) rfl ?_ | refine s_callF rfl rfl rfl rfl rfl rfl rfl rfl (arr_none (c42 a names hnn) hT) rfl ?_ | refine s_callF rfl rfl rfl rfl rfl rfl rfl rfl (arr_none (c48 a n m) hN) rfl ?_ | refine s_callF rfl rfl rfl rfl rfl rfl rfl rfl (arr_none (c40 a es) hS) rfl ?_ | refine s_callF rfl rfl rfl rfl rfl rfl rfl rfl (c32t a hca) rfl ?_ | refine s_callD 16 rfl rfl rfl rfl rfl rfl rfl rfl (arr_some (c42 a names hnn) hT) rfl rfl rfl ?_ | refine s_callD 16 rfl rfl rfl rfl rfl rfl rfl rfl (arr_some (c42 (tranA a names) (a.dims.map Dim.name) hdn) (trans_back hTr)) rfl rfl rfl ?_ | refine s_callD 16 rfl rfl rfl rfl rfl rfl rfl rfl (arr_some (c48 a n m) hN) rfl rfl rfl ?_ | refine s_callD 16 rfl rfl rfl rfl rfl rfl rfl rfl (arr_some (c48 (renA a n m) m n) (ren_back hNr)) rfl rfl rfl ?_ | refine s_callD 16 rfl rfl rfl rfl rfl rfl rfl rfl (arr_some (c40 a es) hS) rfl rfl rfl ?_ | refine s_callD 16 rfl rfl rfl rfl rfl rfl rfl rfl (arr_some (c40 (reshA a es) a.dims) hSb) rfl rfl rfl ?_ | fail) | (show OkOps _ _ _ (Oper.mk _ (Op.box _ _) _ _ _ (_) :: _) _ _; first | refine s_box 0 rfl rfl rfl rfl rfl rfl ?_ | fail) | (show OkOps _ _ _ (Oper.mk _ (Op.alloc _) _ _ _ (_) :: _) _ _; first | refine s_alloc tabOk 1 rfl rfl rfl rfl rfl ?_ | refine s_alloc tabOk 2 rfl rfl rfl rfl rfl ?_ | refine s_alloc tabOk 3 rfl rfl rfl rfl rfl ?_ | refine s_alloc tabOk 4 rfl rfl rfl rfl rfl ?_ | refine s_alloc tabOk 5 rfl rfl rfl rfl rfl ?_ | refine s_alloc tabOk 6 rfl rfl rfl rfl rfl ?_ | fail) | refine s_store envOk rfl rfl rfl ?_ | refine s_new envOk 2 rfl rfl rfl rfl rfl rfl ?_ | fail) | (show OkC _ _ _ _ _; first | (show OkC _ _ (Code.region 9 _ _) _ _; refine okc_imp (st' := ⟨[(1, .one (.d (encNames names))), (2, .one (.d (.str n))), (3, .one (.d (.str m))), (4, .one (.d (encDims es))), (5, .one (.ref 0 0)), (11, .one (.d (encNames (a.dims.map Dim.name))))], [(0, .box [.d (encDims a.dims), .d (encAttrs a.attrs), .d (encCells a.cells)])]⟩) (Imp.trans (imp_sealL (dl := [11]) rfl) (imp_sub (subL_cons rfl (subL_cons rfl (subL_cons rfl (subL_cons rfl (subL_cons rfl (subL_cons (congrArg (fun x => some (AV.one (AC.d (D.sl 1 16 x)))) (names_row hp2 (by first | omega | ((try simp only [decide_eq_true_eq, decide_eq_false_iff_not, Bool.not_eq_true', Bool.not_true, Bool.not_false, List.length_map, List.length_set, bne_iff_ne, ne_eq, beq_iff_eq, bne_eq_false_iff_eq, beq_eq_false_iff_ne] at *); omega)))) subL_nil)))))) (subL_cons rfl subL_nil))) ?_) | refine ok_seq ?_ | refine ok_region ?_ | refine ok_block ?_ | refine ok_skip ?_ | refine ok_ret ?_ | refine ok_exit ?_ | refine ok_condT rfl ?_ | refine ok_condF rfl ?_ | refine ok_condKF rfl (by assumption) ?_ | refine ok_cond rfl (fun h => ?_) (fun h => ?_) | refine s_loopN 5 rfl (imp_adopt (s := 11) (id := 11) (k := 1) (b := 16) rfl rfl rfl rfl) [(1, _), (2, _), (3, _), (4, _), (5, _), (30, _), (31, _)] (subL_cons rfl (subL_cons rfl (subL_cons rfl (subL_cons rfl (subL_cons rfl (subL_cons rfl (subL_cons rfl subL_nil))))))) (fun (bN : Bool × Bool) (p : Nat × List (List D)) => [(11, .one (.own 11 p.1)), (32, .one (.d (.int .i64 (p.1 : Int))))]) (fun (bN : Bool × Bool) (p : Nat × List (List D)) => [(11, .row 1 16 p.2), (0, .box [.d (encDims a.dims), .d (encAttrs a.attrs), .d (encCells a.cells)])]) (fun (p : Nat × List (List D)) => p.1 ≤ a.dims.length ∧ p.2 = (a.dims.take p.1).map (fun d => encName d.name)) (fun (p : Nat × List (List D)) => a.dims.length - p.1) (0, []) (subL_cons rfl (subL_cons rfl subL_nil)) (by first | exact subL_nil | exact (subL_cons rfl subL_nil) | exact (subL_cons rfl (subL_cons rfl subL_nil)) | exact (subL_cons rfl (subL_cons rfl (subL_cons rfl subL_nil))) | exact (subL_cons rfl (subL_cons rfl (subL_cons rfl (subL_cons rfl subL_nil)))) | exact (subL_cons rfl (subL_cons rfl (subL_cons rfl (subL_cons rfl (subL_cons rfl subL_nil))))) | exact (subL_cons rfl (subL_cons rfl (subL_cons rfl (subL_cons rfl (subL_cons rfl (subL_cons rfl subL_nil)))))) | exact (subL_cons rfl (subL_cons rfl (subL_cons rfl (subL_cons rfl (subL_cons rfl (subL_cons rfl (subL_cons rfl subL_nil))))))) | exact (subL_cons rfl (subL_cons rfl (subL_cons rfl (subL_cons rfl (subL_cons rfl (subL_cons rfl (subL_cons rfl (subL_cons rfl subL_nil))))))))) (fun b y => by obtain ⟨b1, b2⟩ := b; cases b1 <;> cases b2 <;> first | exact Imp.refl _ | exact imp_ren qN (by kernel_rfl)) ?_ (fun p ⟨hp1, hp2⟩ => ?_) | fail) | (show thenQ _ _ _ _; first | refine then_n ?_ | refine then_x ?_ | fail) | (show blockQ _ _ _ _; first | refine block_n ?_ | refine block_x rfl ?_ | fail) | (show RetQ _ _ _ _ _ _; first | refine ret_leaf (.inl rfl) rfl rfl ?_ | fail) | (show Exists _; first | refine Exists.intro ((p.1 + 1, p.2.take p.1 ++ [encName (at_ a.dims p.1).name])) (Exists.intro (false, false) ⟨?_, ?_, (by first | exact subL_nil | exact (subL_cons rfl subL_nil) | exact (subL_cons rfl (subL_cons rfl subL_nil)) | exact (subL_cons rfl (subL_cons rfl (subL_cons rfl subL_nil))) | exact (subL_cons rfl (subL_cons rfl (subL_cons rfl (subL_cons rfl subL_nil)))) | exact (subL_cons rfl (subL_cons rfl (subL_cons rfl (subL_cons rfl (subL_cons rfl subL_nil))))) | exact (subL_cons rfl (subL_cons rfl (subL_cons rfl (subL_cons rfl (subL_cons rfl (subL_cons rfl subL_nil)))))) | exact (subL_cons rfl (subL_cons rfl (subL_cons rfl (subL_cons rfl (subL_cons rfl (subL_cons rfl (subL_cons rfl subL_nil))))))) | exact (subL_cons rfl (subL_cons rfl (subL_cons rfl (subL_cons rfl (subL_cons rfl (subL_cons rfl (subL_cons rfl (subL_cons rfl subL_nil))))))))), (subL_cons rfl (subL_cons rfl subL_nil)), (subL_cons rfl (subL_cons rfl (subL_cons rfl (subL_cons rfl (subL_cons rfl (subL_cons rfl (subL_cons rfl subL_nil)))))))⟩) | fail) | fail)
  all_goals first
    | rfl
    | exact ⟨Nat.zero_le _, rfl⟩
    | (have hlt : p.1 < a.dims.length := by simpa using h
       exact ⟨hlt, row_app (fun d : Dim => encName d.name) a.dims hp2 hlt⟩)
    | (have hlt : p.1 < a.dims.length := by simpa using h
       show a.dims.length - (p.1 + 1) < a.dims.length - p.1
       omega)
    | skip
end Go.Proofs.YtpejdgkaapnekaaGreat

namespace Go.Proofs.YtpejdgkaapnekaaGreat
open Go Go.Abs
open Go.ChangeShapes Go.WideShapes Go.ChangeAt Go.RowKit
set_option maxRecDepth 100000 in
theorem back_contract (H : Type) (en : TypeId × Value → H) (W : World) (base : Nat) (args : Array Value) (ds gs : List (DataW H)) (before : List MemPlace)
    (hval : ∀ (j : Nat) t v, Tryz.f13.params[j]? = some t → args[j]? = some v → Value.okWide Tryz.prog W .any base t v)
    (hW : DataW.Whole en Tryz.prog Tryz.f13.params.toList Rows.algebraBackSpec.vars false W args.toList ds gs before) (hk : Rows.uptoSmall H (ds ++ gs) = true) :
    Calls Tryz.prog 13 args W fun e W' => ∃ v, e = .returned v ∧ Rows.algebraBackSpec.post en Tryz.prog Tryz.f13 false true false false W args v W' := by
  have hW' := hW
  obtain ⟨p, q, hA0, hV, rfl, hfz, hnd⟩ := hW
  have hA : DataW.TrodAll en Tryz.prog W 0 (fun _ => true) true Tryz.f13.params.toList args.toList ds p := hA0
  rw [Tryz.params13] at hA hval
  obtain ⟨v0, vs0, d0, ds0, p0, q0, hargs, rfl, rfl, h0, r0⟩ := trodAll_cons hA
  obtain ⟨v1, vs1, d1, ds1, p1, q1, rfl, rfl, rfl, h1, r1⟩ := trodAll_cons r0
  obtain ⟨v2, vs2, d2, ds2, p2, q2, rfl, rfl, rfl, h2, r2⟩ := trodAll_cons r1
  obtain ⟨v3, vs3, d3, ds3, p3, q3, rfl, rfl, rfl, h3, r3⟩ := trodAll_cons r2
  obtain ⟨v4, vs4, d4, ds4, p4, q4, rfl, rfl, rfl, h4, r4⟩ := trodAll_cons r3
  obtain ⟨rfl, rfl, rfl⟩ := trodAll_nil r4
  obtain rfl : args = #[v0, v1, v2, v3, v4] := by cases args; simp_all
  obtain ⟨rfl, rfl⟩ := trodVars_none hV
  obtain ⟨cs0, rfl⟩ := okWide_agg Tryz.underlying26 (hval 0 26 v0 rfl rfl)
  obtain ⟨s1, l1, c1, rfl⟩ := okWide_slice Tryz.underlying45 (hval 1 45 v1 rfl rfl)
  obtain ⟨s2, rfl⟩ := okWide_string Tryz.underlying9 (hval 2 9 v2 rfl rfl)
  obtain ⟨s3, rfl⟩ := okWide_string Tryz.underlying9 (hval 3 9 v3 rfl rfl)
  obtain ⟨s4, l4, c4, rfl⟩ := okWide_slice Tryz.underlying22 (hval 4 22 v4 rfl rfl)
  have hbk : (Rows.uptoBulk d0 + (Rows.uptoBulk d1 + (Rows.uptoBulk d2 + (Rows.uptoBulk d3 + (Rows.uptoBulk d4))))) ≤ 1048576 := by
    simpa [Rows.uptoSmall, Rows.uptoBulkAll] using hk
  obtain ⟨f0, h0⟩ := h0
  obtain ⟨f1, h1⟩ := h1
  obtain ⟨f2, h2⟩ := h2
  obtain ⟨f3, h3⟩ := h3
  obtain ⟨f4, h4⟩ := h4
  obtain ⟨a0, hl0, ha0⟩ := rd_arr (N := 1048571) (by omega) f0 _ _ h0 (by show Rows.uptoBulk d0 ≤ _; omega)
  obtain ⟨a1, hl1, ha1⟩ := rd_slice (f := encName) (N := 1048575) (k := 1) (b := 16) (by omega) (by omega) (by omega) Tryz.underlying45 cells9 (rd_str (by omega) Tryz.underlying9) f1 _ _ h1 (by show Rows.uptoBulk d1 ≤ _; omega)
  obtain ⟨a2, hl2, ha2⟩ := rd_str (N := 1048576) (by omega) Tryz.underlying9 f2 _ _ h2 (by show Rows.uptoBulk d2 ≤ _; omega)
  obtain ⟨a3, hl3, ha3⟩ := rd_str (N := 1048576) (by omega) Tryz.underlying9 f3 _ _ h3 (by show Rows.uptoBulk d3 ≤ _; omega)
  obtain ⟨a4, hl4, ha4⟩ := rd_slice (f := encDim) (N := 1048575) (k := 3) (b := 32) (by omega) (by omega) (by omega) Tryz.underlying22 cells53 (rd_dim (by omega)) f4 _ _ h4 (by show Rows.uptoBulk d4 ≤ _; omega)
  refine ((c13 a0 a1 a2 a3 a4 (Nat.le_succ_of_le hl1.1) (Nat.le_succ_of_le hl4.1)).run W (sg W) (fun _ => none) [.agg cs0.toArray, .slice s1 l1 c1, .string s2, .string s3, .slice s4 l4 c4] (sg_inv _) ⟨⟨cs0, rfl, all2_d ha0⟩, RepC.d ha1.1, RepC.d ha2.1, RepC.d ha3.1, RepC.d ha4.1, trivial⟩).mono fun e W' ⟨v, σ', φ', he, hret⟩ => ?_
  subst he
  have hv : v = .bool true := by
    have h2 := RepC.d_inv hret.rep
    cases h2; rfl
  subst hv
  have hsame : ∀ p ∈ p0 ++ (p1 ++ (p2 ++ (p3 ++ (p4 ++ [])))), W.sameAt W' p := fun p hp => keptSame hret.kept (hW'.lt p (by simpa using hp))
  have hAk := carryAll hA0 hsame
  exact ⟨_, rfl, _, _, _, [], _, [], hW', trodAll_mk1 (shutBool true), DataW.TrodAll.respare kids full (by
      rw [Tryz.params13]
      intro t ht
      have ht' : t = 26 ∨ t = 45 ∨ t = 9 ∨ t = 9 ∨ t = 22 := by simpa using ht
      rcases ht' with rfl | rfl | rfl | rfl | rfl <;> exact few (by omega)) hAk (fun p hp => by
        have := hW'.lt p (by simpa using hp)
        simpa using this), rfl, keptAll hret.kept _, fun h => by cases h⟩
end Go.Proofs.YtpejdgkaapnekaaGreat
