import Derived.Test.YtpejdgkaapnekaaGreatP7
import Derived.Test.YtpejdgkaapnekaaGreatKZ
import Derived.Test.YtpejdgkaapnekaaGreatP8
import Derived.Test.YtpejdgkaapnekaaGreatP6
set_option linter.unusedVariables false
set_option linter.unusedSimpArgs false
namespace Go.Proofs.YtpejdgkaapnekaaGreat
open Go Go.Abs
attribute [local irreducible] OkOps OkC DRun thenQ blockQ RetQ
set_option maxRecDepth 10000
theorem c19 : CallA Tryz.prog 19 [] [] (.one (.d (.bool true))) [] := k445
theorem c29s (a : Arr) (ds : List Dim) (names : List (List UInt8)) (rule : Int) (hdl : ds.length ≤ 1048576) (hnames : names.length ≤ 1048576) (y : Arr) (h : redF a ds names rule = (some y, 0)) : CallA Tryz.prog 29 [aggA a, .one (.d (encDims ds)), .one (.d (encNames names)), .one (.d (.int .i64 rule))] [] (.tup [(true, [.d (encDims y.dims), .d (encAttrs y.attrs), .d (encCells y.cells)]), (false, [.d (.int .i64 0)])]) [] := by
  have h1 := c29 a ds names rule hdl hnames
  rw [h] at h1
  exact h1
theorem c29n (a : Arr) (ds : List Dim) (names : List (List UInt8)) (rule : Int) (hdl : ds.length ≤ 1048576) (hnames : names.length ≤ 1048576) (e : Int) (h : redF a ds names rule = (none, e)) : CallA Tryz.prog 29 [aggA a, .one (.d (encDims ds)), .one (.d (encNames names)), .one (.d (.int .i64 rule))] [] (.tup [(true, [.d .nil, .d .nil, .d .nil]), (false, [.d (.int .i64 e)])]) [] := by
  have h1 := c29 a ds names rule hdl hnames
  rw [h] at h1
  exact h1
end Go.Proofs.YtpejdgkaapnekaaGreat
namespace Go.Proofs.YtpejdgkaapnekaaGreat
open Go Go.Abs
attribute [local irreducible] OkOps OkC DRun thenQ blockQ RetQ
set_option maxRecDepth 10000
theorem callA_weak {P : Program} {f : FuncId} {args args' : List AV} {sto : Sto} {rav : AV} {rsto : Sto} (h : CallA P f args sto rav rsto) (hw : ∀ σ φ vs, All2 (RepV σ φ sto) args' vs → All2 (RepV σ φ sto) args vs) : CallA P f args' sto rav rsto :=
  ⟨h.fn, fun w σ φ vs hi ha => h.run w σ φ vs hi (hw σ φ vs ha)⟩
theorem repC_nil {σ : Sig} {φ : Pl} {sto : Sto} {k b : Nat} {v : Value} (h : RepC σ φ sto (.d .nil) v) : RepC σ φ sto (.d (.sl k b [])) v := by
  have h1 := RepC.d_inv h
  cases h1
  exact .d (.sl (fun _ _ => undef) (by simp) (by simp) (by simp) (by simp) (by simp) (by simp))
theorem agg_nil {σ : Sig} {φ : Pl} {sto : Sto} {v : Value} (h : RepV σ φ sto (.agg [.d .nil, .d .nil, .d .nil]) v) : RepV σ φ sto (encA ([], [], [])) v := by
  obtain ⟨vs, rfl, h2⟩ := h
  match vs, h2 with
  | [x, y, z], h2 => exact ⟨_, rfl, repC_nil h2.1, repC_nil h2.2.1, repC_nil h2.2.2.1, trivial⟩
  | [], h2 => exact h2.elim
  | [_], h2 => exact h2.2.elim
  | [_, _], h2 => exact h2.2.2.elim
  | _ :: _ :: _ :: _ :: _, h2 => exact h2.2.2.2.elim
theorem eqArr_self (x : List Dim × List Attr × List Cell) : eqArr x x = true := by
  unfold eqArr
  rw [(sameF_eq eqDim_iff).2 rfl, (sameF_eq eqAttr_iff).2 rfl, (sameF_eq eqCell_iff).2 rfl]
  rfl
theorem c25n (e : Int) : CallA Tryz.prog 25 [.agg [.d .nil, .d .nil, .d .nil], .one (.d (.int .i64 e)), .agg [.d .nil, .d .nil, .d .nil], .one (.d (.int .i64 e))] [] (.one (.d (.bool true))) [] := by
  have h := c25 ([], [], []) ([], [], []) e e
  rw [eqArr_self, show (e == e && true) = true by simp] at h
  refine callA_weak h fun σ φ vs hv => ?_
  match vs, hv with
  | [x, y, z, w], hv => exact ⟨agg_nil hv.1, hv.2.1, agg_nil hv.2.2.1, hv.2.2.2⟩
  | [], hv => exact hv.elim
  | [_], hv => exact hv.2.elim
  | [_, _], hv => exact hv.2.2.elim
  | [_, _, _], hv => exact hv.2.2.2.elim
  | _ :: _ :: _ :: _ :: _ :: _, hv => exact hv.2.2.2.2.elim
theorem c25s (y : Arr) : CallA Tryz.prog 25 [aggA y, .one (.d (.int .i64 0)), aggA y, .one (.d (.int .i64 0))] [] (.one (.d (.bool true))) [] := by
  have h := c25 (y.dims, y.attrs, y.cells) (y.dims, y.attrs, y.cells) 0 0
  rw [eqArr_self, show ((0 : Int) == 0 && true) = true by simp] at h
  exact h
theorem c28s (y : Arr) : CallA Tryz.prog 28 [aggA y, aggA y] [] (.one (.d (.bool true))) [] := by
  have h := c28 (y.dims, y.attrs, y.cells) (y.dims, y.attrs, y.cells)
  rw [eqArr_self] at h
  exact h
theorem c30s (a : Arr) (ds : List Dim) (names : List (List UInt8)) (rule : Int) (hdl : ds.length ≤ 1048576) (hnames : names.length ≤ 1048576) (y : Arr) (h : redF a ds names rule = (some y, 0)) : CallA Tryz.prog 30 [aggA a, .one (.d (encDims ds)), .one (.d (encNames names)), .one (.d (.int .i64 rule))] [] (.tup [(true, [.d (encDims y.dims), .d (encAttrs y.attrs), .d (encCells y.cells)]), (false, [.d (.int .i64 0)])]) [] := by
  have h1 := c30 a ds names rule hdl hnames
  rw [h] at h1
  exact h1
theorem c30n (a : Arr) (ds : List Dim) (names : List (List UInt8)) (rule : Int) (hdl : ds.length ≤ 1048576) (hnames : names.length ≤ 1048576) (e : Int) (h : redF a ds names rule = (none, e)) : CallA Tryz.prog 30 [aggA a, .one (.d (encDims ds)), .one (.d (encNames names)), .one (.d (.int .i64 rule))] [] (.tup [(true, [.d .nil, .d .nil, .d .nil]), (false, [.d (.int .i64 e)])]) [] := by
  have h1 := c30 a ds names rule hdl hnames
  rw [h] at h1
  exact h1
theorem red_zero {a : Arr} {ds : List Dim} {names : List (List UInt8)} {rule : Int} {y : Arr} {e : Int} (h : redF a ds names rule = (some y, e)) : e = 0 := by
  unfold redF resF at h
  split at h
  · simp at h
  split at h
  · simp at h
  split at h
  · simp at h
  · split at h
    · simp at h
    · simp at h; exact h.2.symm
set_option maxHeartbeats 8000000 in
theorem c5 (a : Arr) (ds : List Dim) (names : List (List UInt8)) (rule : Int) (hs : smallA a) (hdl : ds.length ≤ 1048576) (hnames : names.length ≤ 1048576) : CallA Tryz.prog 5 [aggA a, .one (.d (encDims ds)), .one (.d (encNames names)), .one (.d (.int .i64 rule))] [] (.one (.d (.bool true))) [] := by
  unfold aggA
  refine enter tabOk Tryz.func5 rfl (by decide +kernel) rfl fun hok w0 σ0 φ0 M => ?_
  clear hok
  rcases hrr : redF a ds names rule with ⟨y, e⟩
  cases y with
  | none =>
    have hr : redF a ds names rule = (none, e) := hrr
    repeat' (first | (show OkOps _ _ _ _ _ _; first | refine okops_nil ?_ | refine s_plain tabOk rfl rfl rfl rfl rfl ?_ | (show OkOps _ _ _ (Oper.mk _ (_) _ _ _ (some _) :: _) _ _; first | refine s_guard rfl rfl (by first | assumption | rfl) ?_ | refine s_out rfl rfl (by first | assumption | rfl) rfl rfl ?_ | refine s_split rfl rfl rfl rfl (fun h => ?_) (fun h => ?_) | fail) | (show OkOps _ _ _ (Oper.mk _ (Op.pick _ _ _) _ _ _ (_) :: _) _ _; first | refine s_e envOk rfl rfl rfl (step3_pickT rfl rfl (by first | rfl | assumption) rfl) ?_ | refine s_e envOk rfl rfl rfl (step3_pickF rfl rfl (by first | rfl | assumption) rfl) ?_ | fail) | (show OkOps _ _ _ (Oper.mk _ (Op.call _) _ _ _ (_) :: _) _ _; first | refine s_callF rfl rfl rfl rfl rfl rfl rfl rfl (c19) rfl ?_ | refine s_callF rfl rfl rfl rfl rfl rfl rfl rfl (c25n e) rfl ?_ | refine s_callF rfl rfl rfl rfl rfl rfl rfl rfl (c28s a) rfl ?_ | refine s_callF rfl rfl rfl rfl rfl rfl rfl rfl (c29n a ds names rule hdl hnames e hr) rfl ?_ | refine s_callF rfl rfl rfl rfl rfl rfl rfl rfl (c30n a ds names rule hdl hnames e hr) rfl ?_ | refine s_callD 16 rfl rfl rfl rfl rfl rfl rfl rfl (c22 a hs) rfl rfl rfl ?_ | fail) | (show OkOps _ _ _ (Oper.mk _ (Op.box _ _) _ _ _ (_) :: _) _ _; first | refine s_box 0 rfl rfl rfl rfl rfl rfl ?_ | fail) | (show OkOps _ _ _ (Oper.mk _ (Op.alloc _) _ _ _ (_) :: _) _ _; first | refine s_alloc tabOk 1 rfl rfl rfl rfl rfl ?_ | refine s_alloc tabOk 2 rfl rfl rfl rfl rfl ?_ | refine s_alloc tabOk 3 rfl rfl rfl rfl rfl ?_ | fail) | refine s_store envOk rfl rfl rfl ?_ | fail) | (show OkC _ _ _ _ _; first | refine ok_seq ?_ | refine ok_region ?_ | refine ok_skip ?_ | refine ok_ret ?_ | refine ok_condT rfl ?_ | refine ok_cond rfl (fun h => ?_) (fun h => ?_) | fail) | (show thenQ _ _ _ _; first | refine then_n ?_ | refine then_r ?_ | fail) | (show RetQ _ _ _ _ _ _; first | refine ret_leaf (.inl rfl) rfl rfl ?_ | fail) | fail)
    all_goals rfl
  | some y =>
    obtain rfl : e = 0 := red_zero hrr
    have hr : redF a ds names rule = (some y, 0) := hrr
    repeat' (first | (show OkOps _ _ _ _ _ _; first | refine okops_nil ?_ | refine s_plain tabOk rfl rfl rfl rfl rfl ?_ | (show OkOps _ _ _ (Oper.mk _ (_) _ _ _ (some _) :: _) _ _; first | refine s_guard rfl rfl (by first | assumption | rfl) ?_ | refine s_out rfl rfl (by first | assumption | rfl) rfl rfl ?_ | refine s_split rfl rfl rfl rfl (fun h => ?_) (fun h => ?_) | fail) | (show OkOps _ _ _ (Oper.mk _ (Op.pick _ _ _) _ _ _ (_) :: _) _ _; first | refine s_e envOk rfl rfl rfl (step3_pickT rfl rfl (by first | rfl | assumption) rfl) ?_ | refine s_e envOk rfl rfl rfl (step3_pickF rfl rfl (by first | rfl | assumption) rfl) ?_ | fail) | (show OkOps _ _ _ (Oper.mk _ (Op.call _) _ _ _ (_) :: _) _ _; first | refine s_callF rfl rfl rfl rfl rfl rfl rfl rfl (c19) rfl ?_ | refine s_callF rfl rfl rfl rfl rfl rfl rfl rfl (c25s y) rfl ?_ | refine s_callF rfl rfl rfl rfl rfl rfl rfl rfl (c28s a) rfl ?_ | refine s_callD 16 rfl rfl rfl rfl rfl rfl rfl rfl (c22 a hs) rfl rfl rfl ?_ | refine s_callD 16 rfl rfl rfl rfl rfl rfl rfl rfl (c29s a ds names rule hdl hnames y hr) rfl rfl rfl ?_ | refine s_callD 16 rfl rfl rfl rfl rfl rfl rfl rfl (c30s a ds names rule hdl hnames y hr) rfl rfl rfl ?_ | fail) | (show OkOps _ _ _ (Oper.mk _ (Op.box _ _) _ _ _ (_) :: _) _ _; first | refine s_box 0 rfl rfl rfl rfl rfl rfl ?_ | fail) | (show OkOps _ _ _ (Oper.mk _ (Op.alloc _) _ _ _ (_) :: _) _ _; first | refine s_alloc tabOk 1 rfl rfl rfl rfl rfl ?_ | refine s_alloc tabOk 2 rfl rfl rfl rfl rfl ?_ | refine s_alloc tabOk 3 rfl rfl rfl rfl rfl ?_ | fail) | refine s_store envOk rfl rfl rfl ?_ | fail) | (show OkC _ _ _ _ _; first | refine ok_seq ?_ | refine ok_region ?_ | refine ok_skip ?_ | refine ok_ret ?_ | refine ok_condT rfl ?_ | refine ok_cond rfl (fun h => ?_) (fun h => ?_) | fail) | (show thenQ _ _ _ _; first | refine then_n ?_ | refine then_r ?_ | fail) | (show RetQ _ _ _ _ _ _; first | refine ret_leaf (.inl rfl) rfl rfl ?_ | fail) | fail)
    all_goals rfl
end Go.Proofs.YtpejdgkaapnekaaGreat
namespace Go.Proofs.YtpejdgkaapnekaaGreat
open Go Go.Abs
open Go.ChangeShapes Go.WideShapes Go.ChangeAt Go.RowKit
set_option maxRecDepth 100000 in
theorem redims_contract (H : Type) (en : TypeId × Value → H) (W : World) (base : Nat) (args : Array Value) (ds gs : List (DataW H)) (before : List MemPlace)
    (hval : ∀ (j : Nat) t v, Tryz.f5.params[j]? = some t → args[j]? = some v → Value.okWide Tryz.prog W .any base t v)
    (hW : DataW.Whole en Tryz.prog Tryz.f5.params.toList Rows.algebraRedimsSpec.vars false W args.toList ds gs before) (hk : Rows.uptoSmall H (ds ++ gs) = true) :
    Calls Tryz.prog 5 args W fun e W' => ∃ v, e = .returned v ∧ Rows.algebraRedimsSpec.post en Tryz.prog Tryz.f5 false true false false W args v W' := by
  have hW' := hW
  obtain ⟨p, q, hA0, hV, rfl, hfz, hnd⟩ := hW
  have hA : DataW.TrodAll en Tryz.prog W 0 (fun _ => true) true Tryz.f5.params.toList args.toList ds p := hA0
  rw [Tryz.params5] at hA hval
  obtain ⟨v0, vs0, d0, ds0, p0, q0, hargs, rfl, rfl, h0, r0⟩ := trodAll_cons hA
  obtain ⟨v1, vs1, d1, ds1, p1, q1, rfl, rfl, rfl, h1, r1⟩ := trodAll_cons r0
  obtain ⟨v2, vs2, d2, ds2, p2, q2, rfl, rfl, rfl, h2, r2⟩ := trodAll_cons r1
  obtain ⟨v3, vs3, d3, ds3, p3, q3, rfl, rfl, rfl, h3, r3⟩ := trodAll_cons r2
  obtain ⟨rfl, rfl, rfl⟩ := trodAll_nil r3
  obtain rfl : args = #[v0, v1, v2, v3] := by cases args; simp_all
  obtain ⟨rfl, rfl⟩ := trodVars_none hV
  obtain ⟨cs0, rfl⟩ := okWide_agg Tryz.underlying26 (hval 0 26 v0 rfl rfl)
  obtain ⟨s1, l1, c1, rfl⟩ := okWide_slice Tryz.underlying22 (hval 1 22 v1 rfl rfl)
  obtain ⟨s2, l2, c2, rfl⟩ := okWide_slice Tryz.underlying45 (hval 2 45 v2 rfl rfl)
  obtain ⟨s3, rfl⟩ := okWide_int Tryz.underlying3 (hval 3 3 v3 rfl rfl)
  have hbk : (Rows.uptoBulk d0 + (Rows.uptoBulk d1 + (Rows.uptoBulk d2 + (Rows.uptoBulk d3)))) ≤ 1048576 := by
    simpa [Rows.uptoSmall, Rows.uptoBulkAll] using hk
  obtain ⟨f0, h0⟩ := h0
  obtain ⟨f1, h1⟩ := h1
  obtain ⟨f2, h2⟩ := h2
  obtain ⟨f3, h3⟩ := h3
  obtain ⟨a0, hl0, ha0⟩ := rd_arr (N := 1048571) (by omega) f0 _ _ h0 (by show Rows.uptoBulk d0 ≤ _; omega)
  obtain ⟨a1, hl1, ha1⟩ := rd_slice (f := encDim) (N := 1048575) (k := 3) (b := 32) (by omega) (by omega) (by omega) Tryz.underlying22 cells53 (rd_dim (by omega)) f1 _ _ h1 (by show Rows.uptoBulk d1 ≤ _; omega)
  obtain ⟨a2, hl2, ha2⟩ := rd_slice (f := encName) (N := 1048575) (k := 1) (b := 16) (by omega) (by omega) (by omega) Tryz.underlying45 cells9 (rd_str (by omega) Tryz.underlying9) f2 _ _ h2 (by show Rows.uptoBulk d2 ≤ _; omega)
  obtain ⟨a3, hl3, ha3⟩ := rd_int (N := 1048576) Tryz.underlying3 f3 _ _ h3 (by show Rows.uptoBulk d3 ≤ _; omega)
  refine ((c5 a0 a1 a2 a3 (smallA_of hl0) (Nat.le_succ_of_le hl1.1) (Nat.le_succ_of_le hl2.1)).run W (sg W) (fun _ => none) [.agg cs0.toArray, .slice s1 l1 c1, .slice s2 l2 c2, .int .i64 s3] (sg_inv _) ⟨⟨cs0, rfl, all2_d ha0⟩, RepC.d ha1.1, RepC.d ha2.1, RepC.d ha3.1, trivial⟩).mono fun e W' ⟨v, σ', φ', he, hret⟩ => ?_
  subst he
  have hv : v = .bool true := by
    have h2 := RepC.d_inv hret.rep
    cases h2; rfl
  subst hv
  have hsame : ∀ p ∈ p0 ++ (p1 ++ (p2 ++ (p3 ++ []))), W.sameAt W' p := fun p hp => keptSame hret.kept (hW'.lt p (by simpa using hp))
  have hAk := carryAll hA0 hsame
  exact ⟨_, rfl, _, _, _, [], _, [], hW', trodAll_mk1 (shutBool true), DataW.TrodAll.respare kids full (by
      rw [Tryz.params5]
      intro t ht
      have ht' : t = 26 ∨ t = 22 ∨ t = 45 ∨ t = 3 := by simpa using ht
      rcases ht' with rfl | rfl | rfl | rfl <;> exact few (by omega)) hAk (fun p hp => by
        have := hW'.lt p (by simpa using hp)
        simpa using this), rfl, keptAll hret.kept _, fun h => by cases h⟩
end Go.Proofs.YtpejdgkaapnekaaGreat
