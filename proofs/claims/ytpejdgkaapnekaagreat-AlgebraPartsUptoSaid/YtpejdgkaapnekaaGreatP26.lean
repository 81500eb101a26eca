import Derived.Test.YtpejdgkaapnekaaGreatP8
import Derived.Test.YtpejdgkaapnekaaGreatKZ
import Derived.Test.YtpejdgkaapnekaaGreatP7
set_option linter.unusedVariables false
set_option linter.unusedSimpArgs false
namespace Go.Proofs.YtpejdgkaapnekaaGreat
open Go Go.Abs
attribute [local irreducible] OkOps OkC DRun thenQ blockQ RetQ
set_option maxRecDepth 10000
theorem c19 : CallA Tryz.prog 19 [] [] (.one (.d (.bool true))) [] := k445
def bigF (a : Arr) (m : Int) : Bool := decide (m < (a.cells.length : Int)) || chkA a != 0
theorem res_cases (ds : List Dim) (ats : List Attr) (cs : List Cell) : (∃ e : Int, e ≠ 0 ∧ resF ds ats cs = (none, e)) ∨ ∃ c, resF ds ats cs = (some c, 0) := by
  unfold resF
  split
  · exact .inl ⟨9, by omega, rfl⟩
  · exact .inr ⟨_, rfl⟩
theorem cat_cases (a b : Arr) (name : List UInt8) : (∃ e : Int, e ≠ 0 ∧ catF a b name = (none, e)) ∨ ∃ c, catF a b name = (some c, 0) := by
  unfold catF
  split
  · exact .inl ⟨2, by omega, rfl⟩
  split
  · exact .inl ⟨11, by omega, rfl⟩
  split
  · exact .inl ⟨13, by omega, rfl⟩
  split
  · exact .inl ⟨13, by omega, rfl⟩
  split
  · exact .inl ⟨12, by omega, rfl⟩
  split
  · exact .inl ⟨3, by omega, rfl⟩
  exact res_cases _ _ _
theorem c23e (a : Arr) (lo hi : List Int) (xs ys : List (List D)) (hx : xs = lo.map encInt) (hy : ys = hi.map encInt) (c : Arr) (h : subF a lo hi = (some c, 0)) : CallA Tryz.prog 23 [aggA a, .one (.d (.sl 1 8 xs)), .one (.d (.sl 1 8 ys))] [] (.tup [(true, [.d (encDims c.dims), .d (encAttrs c.attrs), .d (encCells c.cells)]), (false, [.d (.int .i64 0)])]) [] := by
  subst hx; subst hy
  have h1 := c23 a lo hi
  rw [h] at h1
  exact h1
theorem c35z (x : List Int) (xs : List (List D)) (hx : xs = x.map encInt) : CallA Tryz.prog 35 [.one (.d (.sl 1 8 xs)), .one (.d (encInts x))] [] (.one (.d (.int .i64 0))) [] := by
  subst hx
  have h1 := c35 x x
  rw [cmpF_refl] at h1
  exact h1
theorem sub_okD {a c : Arr} {lo hi : List Int} (h : subF a lo hi = (some c, 0)) : chkA a = 0 ∧ lo.length = a.dims.length ∧ hi.length = a.dims.length ∧ (∀ i, i < a.dims.length → okD (cutD (at_ a.dims i) (at_ lo i, at_ hi i)) = true) := by
  unfold subF at h
  split at h
  · cases h
  rename_i h1
  split at h
  · cases h
  rename_i h2
  split at h
  · cases h
  rename_i h3
  have hl : lo.length = a.dims.length := by omega
  have hh : hi.length = a.dims.length := by omega
  refine ⟨by unfold chkA; omega, hl, hh, fun i hi' => ?_⟩
  simp only [Bool.not_eq_true', Bool.not_eq_false, List.all_eq_true] at h3
  rw [← cut_at hl hh hi']
  exact h3 _ (at_mem (by rw [cut_len hl hh]; exact hi'))
theorem cmp_of {st : St} {ρ : List (Nat × Nat)} {j i0 : Nat} {o0 o : AObj} (h0 : Abs.look ρ j = some i0) (h1 : Abs.look st.sto i0 = some o0) (hc : compat o0 o) : ∀ i e, Abs.look ρ j = some i → Abs.look st.sto i = some e → compat e o := fun i e h2 h3 => by
  rw [h0] at h2; cases h2
  rw [h1] at h3; cases h3
  exact hc
theorem c23p (a : Arr) (lo hi : List Int) (xs ys : List (List D)) (n m : Nat) (hx : xs = lo.map encInt) (hy : ys = hi.map encInt) (hn : n = lo.length) (hm : m = hi.length) (c : Arr) (h : subF a lo hi = (some c, 0)) :
    CallA Tryz.prog 23 [aggA a, .one (.own 1000000 n), .one (.own 1000001 m)] [(1000000, .row 1 8 xs), (1000001, .row 1 8 ys)] (.tup [(true, [.d (encDims c.dims), .d (encAttrs c.attrs), .d (encCells c.cells)]), (false, [.d (.int .i64 0)])]) [(1000000, .row 1 8 xs), (1000001, .row 1 8 ys)] := by
  subst hx; subst hy; subst hn; subst hm
  obtain ⟨h1, h2, h3, h4⟩ := sub_okD h
  rw [sub_good h1 h2 h3 h4] at h
  simp only [Prod.mk.injEq, Option.some.injEq, and_true] at h
  subst h
  exact c23o a lo hi h1 h2 h3 h4
theorem c32t (a : Arr) (h : chkA a = 0) : CallA Tryz.prog 32 [aggA a, aggA a] [] (.one (.d (.bool true))) [] := by
  have h1 := c32 a a
  have e : spSame a a = true := by
    unfold spSame
    rw [(sameF_eq eqDim_iff).2 rfl, (sameF_eq eqAttr_iff).2 rfl, (sameF_eq eqCell_iff).2 rfl, h]
    rfl
  rw [e] at h1
  exact h1
theorem c36t (l : List Val) : CallA Tryz.prog 36 [.one (.d (encVals l)), .one (.d (encVals l))] [] (.one (.d (.bool true))) [] := by
  have h1 := c36 l l
  rw [(sameF_eq eqVal_iff).2 rfl] at h1
  exact h1
theorem row_of {c : List Dim} {f : Dim → Int} {n : Nat} {r : List (List D)} (h : r = ((c.map f).take n).map encInt) (hn : c.length ≤ n) : r = (c.map f).map encInt := by
  rw [h, List.take_of_length_le (by simpa using hn)]
theorem c36s (x y : List Val) (h : x = y) : CallA Tryz.prog 36 [.one (.d (encVals x)), .one (.d (encVals y))] [] (.one (.d (.bool true))) [] := by
  subst h; exact c36t x
theorem rowD {c : List Dim} {f : Dim → Int} {n : Nat} {r : List (List D)} (h : r = ((c.map f).take n).map encInt) (hlt : n < c.length) : r.take n ++ [[.int .i64 (f (at_ c n))]] = ((c.map f).take (n + 1)).map encInt := by
  have e := row_next encInt (c.map f) (k := n) (by simpa using hlt)
  rw [at_mapN hlt] at e
  rw [h]
  exact e
set_option maxHeartbeats 8000000 in
theorem c7 (a b : Arr) (name : List UInt8) : CallA Tryz.prog 7 [aggA a, aggA b, .one (.d (.str name))] [] (.one (.d (.bool true))) [] := by
  unfold aggA
  refine enter tabOk Tryz.func7 rfl (by decide +kernel) rfl fun hok w0 σ0 φ0 M => ?_
  clear hok
  by_cases h1 : bigF a 100 = true
  · have hb1 : (decide ((100 : Int) < (a.cells.length : Int)) || chkA a != 0) = true := h1
    repeat' (first | (show OkOps _ _ _ _ _ _; first | refine okops_nil ?_ | refine s_plain tabOk rfl rfl rfl rfl rfl ?_ | (show OkOps _ _ _ (Oper.mk _ (_) _ _ _ (some _) :: _) _ _; first | refine s_out rfl rfl (by first | assumption | rfl) rfl rfl ?_ | fail) | (show OkOps _ _ _ (Oper.mk _ (Op.pick _ _ _) _ _ _ (_) :: _) _ _; first | refine s_e envOk rfl rfl rfl (step3_pickT rfl rfl (by first | rfl | assumption) rfl) ?_ | fail) | (show OkOps _ _ _ (Oper.mk _ (Op.call _) _ _ _ (_) :: _) _ _; first | refine s_callF rfl rfl rfl rfl rfl rfl rfl rfl (c31 _ _) rfl ?_ | refine s_callF rfl rfl rfl rfl rfl rfl rfl rfl (c19) rfl ?_ | fail) | (show OkOps _ _ _ (Oper.mk _ (Op.box _ _) _ _ _ (_) :: _) _ _; first | refine s_box 0 rfl rfl rfl rfl rfl rfl ?_ | refine s_box 1 rfl rfl rfl rfl rfl rfl ?_ | fail) | fail) | (show OkC _ _ _ _ _; first | refine ok_seq ?_ | refine ok_region ?_ | refine ok_ret ?_ | refine ok_condT rfl ?_ | fail) | (show thenQ _ _ _ _; first | refine then_n ?_ | refine then_r ?_ | fail) | (show RetQ _ _ _ _ _ _; first | refine ret_leaf (.inl rfl) rfl rfl ?_ | fail) | fail)
    all_goals rfl
  have hb1 : (decide ((100 : Int) < (a.cells.length : Int)) || chkA a != 0) = false := by simpa [bigF] using h1
  by_cases h2 : bigF b 100 = true
  · have hb2 : (decide ((100 : Int) < (b.cells.length : Int)) || chkA b != 0) = true := h2
    repeat' (first | (show OkOps _ _ _ _ _ _; first | refine okops_nil ?_ | refine s_plain tabOk rfl rfl rfl rfl rfl ?_ | (show OkOps _ _ _ (Oper.mk _ (_) _ _ _ (some _) :: _) _ _; first | refine s_guard rfl rfl (by first | assumption | rfl) ?_ | fail) | (show OkOps _ _ _ (Oper.mk _ (Op.pick _ _ _) _ _ _ (_) :: _) _ _; first | refine s_e envOk rfl rfl rfl (step3_pickF rfl rfl (by first | rfl | assumption) rfl) ?_ | fail) | (show OkOps _ _ _ (Oper.mk _ (Op.call _) _ _ _ (_) :: _) _ _; first | refine s_callF rfl rfl rfl rfl rfl rfl rfl rfl (c31 _ _) rfl ?_ | refine s_callF rfl rfl rfl rfl rfl rfl rfl rfl (c19) rfl ?_ | fail) | (show OkOps _ _ _ (Oper.mk _ (Op.box _ _) _ _ _ (_) :: _) _ _; first | refine s_box 0 rfl rfl rfl rfl rfl rfl ?_ | refine s_box 1 rfl rfl rfl rfl rfl rfl ?_ | fail) | fail) | (show OkC _ _ _ _ _; first | refine ok_seq ?_ | refine ok_region ?_ | refine ok_ret ?_ | refine ok_condKT rfl (by assumption) ?_ | fail) | (show thenQ _ _ _ _; first | refine then_n ?_ | refine then_r ?_ | fail) | (show RetQ _ _ _ _ _ _; first | refine ret_leaf (.inl rfl) rfl rfl ?_ | fail) | fail)
    all_goals rfl
  have hb2 : (decide ((100 : Int) < (b.cells.length : Int)) || chkA b != 0) = false := by simpa [bigF] using h2
  have hna : a.cells.length ≤ 100 := by simp at hb1; omega
  have hnb : b.cells.length ≤ 100 := by simp at hb2; omega
  have hca : chkA a = 0 := by simp at hb1; exact hb1.2
  have hcb : chkA b = 0 := by simp at hb2; exact hb2.2
  have hCat := c34 a b name (by omega)
  rcases cat_cases a b name with ⟨e, he, hcat⟩ | ⟨c, hcat⟩
  · rw [hcat] at hCat
    have hb3 : (e != 0) = true := by simpa using he
    simp only [arrE, aggA] at hCat
    repeat' (first | (show OkOps _ _ _ _ _ _; first | refine okops_nil ?_ | refine s_plain tabOk rfl rfl rfl rfl rfl ?_ | (show OkOps _ _ _ (Oper.mk _ (_) _ _ _ (some _) :: _) _ _; first | refine s_guard rfl rfl (by first | assumption | rfl) ?_ | fail) | (show OkOps _ _ _ (Oper.mk _ (Op.pick _ _ _) _ _ _ (_) :: _) _ _; first | refine s_e envOk rfl rfl rfl (step3_pickF rfl rfl (by first | rfl | assumption) rfl) ?_ | fail) | (show OkOps _ _ _ (Oper.mk _ (Op.call _) _ _ _ (_) :: _) _ _; first | refine s_callF rfl rfl rfl rfl rfl rfl rfl rfl (c31 _ _) rfl ?_ | refine s_callF rfl rfl rfl rfl rfl rfl rfl rfl (c19) rfl ?_ | refine s_callF rfl rfl rfl rfl rfl rfl rfl rfl (hCat) rfl ?_ | fail) | (show OkOps _ _ _ (Oper.mk _ (Op.box _ _) _ _ _ (_) :: _) _ _; first | refine s_box 0 rfl rfl rfl rfl rfl rfl ?_ | refine s_box 1 rfl rfl rfl rfl rfl rfl ?_ | fail) | (show OkOps _ _ _ (Oper.mk _ (Op.alloc _) _ _ _ (_) :: _) _ _; first | refine s_alloc tabOk 2 rfl rfl rfl rfl rfl ?_ | fail) | refine s_store envOk rfl rfl rfl ?_ | fail) | (show OkC _ _ _ _ _; first | refine ok_seq ?_ | refine ok_region ?_ | refine ok_skip ?_ | refine ok_ret ?_ | refine ok_condKT rfl (by assumption) ?_ | refine ok_condKF rfl (by assumption) ?_ | fail) | (show thenQ _ _ _ _; first | refine then_n ?_ | refine then_r ?_ | fail) | (show RetQ _ _ _ _ _ _; first | refine ret_leaf (.inl rfl) rfl rfl ?_ | fail) | fail)
    all_goals rfl
  rw [hcat] at hCat
  simp only [arrE, aggA] at hCat
  obtain ⟨k, hk, hC, rfl⟩ := cat_ok hcat
  have hb3 : ((0 : Int) != 0) = false := rfl
  have hcl : (catA a b k).dims.length = a.dims.length := by simp [catA]
  have hF := hC.first (by omega) (by omega)
  have hS := hC.second (by omega)
  have hkl := hC.hk
  have hdl := hC.oka.dims.2.1
  have ba : -1073741824 ≤ (at_ a.dims ((k : Nat) : Int).toNat).lo ∧ (at_ a.dims ((k : Nat) : Int).toNat).lo ≤ 1073741824 ∧ (at_ a.dims ((k : Nat) : Int).toNat).lo ≤ (at_ a.dims ((k : Nat) : Int).toNat).hi ∧ (at_ a.dims ((k : Nat) : Int).toNat).hi ≤ 1073741825 := (hC.oka.dims.2.2.1 k hkl).1
  have hkb : k < b.dims.length := by rw [← hC.len]; exact hkl
  have bb : -1073741824 ≤ (at_ b.dims ((k : Nat) : Int).toNat).lo ∧ (at_ b.dims ((k : Nat) : Int).toNat).lo ≤ 1073741824 ∧ (at_ b.dims ((k : Nat) : Int).toNat).lo ≤ (at_ b.dims ((k : Nat) : Int).toNat).hi ∧ (at_ b.dims ((k : Nat) : Int).toNat).hi ≤ 1073741825 := (hC.okb.dims.2.2.1 k hkb).1
  have hy1 : ((((catA a b k).dims.map Dim.hi).map encInt).set k [.int .i64 (at_ a.dims k).hi]) = (((catA a b k).dims.map Dim.hi).set k (at_ a.dims k).hi).map encInt := by
    rw [List.map_set (f := encInt)]; rfl
  have hn1 : a.dims.length = ((catA a b k).dims.map Dim.lo).length := by rw [List.length_map, hcl]
  have hn2 : a.dims.length = (((catA a b k).dims.map Dim.hi).set k (at_ a.dims k).hi).length := by rw [List.length_set, List.length_map, hcl]
  have hx2 : List.take a.dims.length ((((catA a b k).dims.map Dim.lo).map encInt).set k [.int .i64 ((at_ a.dims k).hi + 1)]) = (((catA a b k).dims.map Dim.lo).set k ((at_ a.dims k).hi + 1)).map encInt := set_map_take (f := encInt) (x := (at_ a.dims k).hi + 1) (by rw [List.length_map, hcl]; exact Nat.le_refl _)
  have hy2 : List.take a.dims.length (((((catA a b k).dims.map Dim.hi).map encInt).set k [.int .i64 (at_ a.dims k).hi]).set k [.int .i64 (at_ (catA a b k).dims k).hi]) = ((((catA a b k).dims.map Dim.hi).set k (at_ a.dims k).hi).set k (catDim a b k).hi).map encInt := by
    have e := set_map_take (f := encInt) (l := ((catA a b k).dims.map Dim.hi).set k (at_ a.dims k).hi) (k := k) (n := a.dims.length) (x := (at_ (catA a b k).dims k).hi) (by rw [List.length_set, List.length_map, hcl]; exact Nat.le_refl _)
    rw [← hy1] at e
    rw [show (at_ (catA a b k).dims k).hi = (catDim a b k).hi by rw [hC.cdim hkl, if_pos rfl]] at e ⊢
    exact e
  have hbl : ∀ i, i < b.cells.length → (at_ (b.cells.map (shiftC k (byF a b k))) i).at' = movI k (byF a b k) (at_ b.cells i).at' ∧ (at_ b.cells i).at'.length = a.dims.length ∧ (at_ (b.cells.map (shiftC k (byF a b k))) i).vals = (at_ b.cells i).vals := fun i hi => by
    rw [at_mapN hi]; exact ⟨rfl, (hC.bcell (at_mem hi)).1, rfl⟩
  have hnm : ∀ i, i < a.dims.length → (at_ (catA a b k).dims i).name = name → i = k := fun i hi he => by
    rw [hC.cdim hi] at he
    by_cases e : i = k
    · exact e
    · rw [if_neg e] at he
      exact names_nd hC.oka.dims.2.2.2 hi hkl (he.trans hC.nm.symm)
  repeat' (first | (show OkOps _ _ _ _ _ _; first | (show OkOps _ _ _ (Oper.mk _ (Op.call _) _ _ _ (_) :: _) _ _; first | refine s_callM 40 [(1000000, 10), (1000001, 12)] (c23p (catA a b k) ((catA a b k).dims.map Dim.lo) (((catA a b k).dims.map Dim.hi).set k (at_ a.dims k).hi) _ _ _ _ rfl hy1 hn1 hn2 _ hF) rfl rfl rfl rfl rfl rfl ⟨⟨10, rfl, rfl⟩, ⟨12, rfl, rfl⟩, trivial⟩ ⟨cmp_of (i0 := 10) rfl rfl ⟨rfl, rfl, Nat.le_refl _⟩, cmp_of (i0 := 12) rfl rfl ⟨rfl, rfl, Nat.le_refl _⟩, trivial⟩ rfl rfl rfl rfl ?_ | fail) | (show OkOps _ _ _ (Oper.mk _ (Op.call _) _ _ _ (_) :: _) _ _; first | refine s_callG 60 [10, 12] rfl rfl rfl rfl rfl rfl rfl rfl rfl (c23e (catA a b k) _ _ _ _ hx2 hy2 _ hS) rfl rfl rfl ?_ | fail) | refine okops_nil ?_ | refine s_plain tabOk rfl rfl rfl rfl rfl ?_ | (show OkOps _ _ _ (Oper.mk _ (_) _ _ _ (some _) :: _) _ _; first | refine s_guard rfl rfl (by first | assumption | rfl) ?_ | refine s_out rfl rfl (by first | assumption | rfl) rfl rfl ?_ | refine s_split rfl rfl rfl rfl (fun h => ?_) (fun h => ?_) | fail) | (show OkOps _ _ _ (Oper.mk _ (Op.binOp .add _ _ _ _) _ _ _ (_) :: _) _ _; first | refine s_e envOk rfl rfl rfl (step3_add rfl rfl rfl rfl (wrap64 (by omega) (by omega))) ?_ | refine s_e envOk rfl rfl rfl (step3_add rfl rfl rfl rfl (wrap64 (by first | omega | ((try simp only [decide_eq_true_eq, decide_eq_false_iff_not, Bool.not_eq_true', Bool.not_true, Bool.not_false, List.length_map, List.length_set, bne_iff_ne, ne_eq, beq_iff_eq, bne_eq_false_iff_eq, beq_eq_false_iff_ne] at *); omega)) (by first | omega | ((try simp only [decide_eq_true_eq, decide_eq_false_iff_not, Bool.not_eq_true', Bool.not_true, Bool.not_false, List.length_map, List.length_set, bne_iff_ne, ne_eq, beq_iff_eq, bne_eq_false_iff_eq, beq_eq_false_iff_ne] at *); omega)))) ?_ | fail) | (show OkOps _ _ _ (Oper.mk _ (Op.pick _ _ _) _ _ _ (_) :: _) _ _; first | refine s_e envOk rfl rfl rfl (step3_pickT rfl rfl (by first | rfl | assumption) rfl) ?_ | refine s_e envOk rfl rfl rfl (step3_pickF rfl rfl (by first | rfl | assumption) rfl) ?_ | fail) | (show OkOps _ _ _ (Oper.mk _ (Op.indexAddr _ _ _) _ _ _ (_) :: _) _ _; first | refine s_e envOk rfl rfl rfl (step3_idxOwn rfl rfl rfl rfl rfl rfl (by omega) (by omega)) ?_ | refine s_e envOk rfl rfl rfl (step3_idx rfl rfl rfl rfl rfl (by omega) (at_map (by omega))) ?_ | refine s_e envOk rfl rfl rfl (step3_idx rfl rfl rfl rfl rfl (by first | omega | ((try simp only [decide_eq_true_eq, decide_eq_false_iff_not, Bool.not_eq_true', Bool.not_true, Bool.not_false, List.length_map, List.length_set, bne_iff_ne, ne_eq, beq_iff_eq, bne_eq_false_iff_eq, beq_eq_false_iff_ne] at *); omega)) (at_map (by first | omega | ((try simp only [decide_eq_true_eq, decide_eq_false_iff_not, Bool.not_eq_true', Bool.not_true, Bool.not_false, List.length_map, List.length_set, bne_iff_ne, ne_eq, beq_iff_eq, bne_eq_false_iff_eq, beq_eq_false_iff_ne] at *); omega)))) ?_ | fail) | (show OkOps _ _ _ (Oper.mk _ (Op.call _) _ _ _ (_) :: _) _ _; first | refine s_callF rfl rfl rfl rfl rfl rfl rfl rfl (c31 _ _) rfl ?_ | refine s_callF rfl rfl rfl rfl rfl rfl rfl rfl (c32t a hca) rfl ?_ | refine s_callD 16 rfl rfl rfl rfl rfl rfl rfl rfl (hCat) rfl rfl rfl ?_ | fail) | (show OkOps _ _ _ (Oper.mk _ (Op.box _ _) _ _ _ (_) :: _) _ _; first | refine s_box 0 rfl rfl rfl rfl rfl rfl ?_ | refine s_box 1 rfl rfl rfl rfl rfl rfl ?_ | fail) | (show OkOps _ _ _ (Oper.mk _ (Op.alloc _) _ _ _ (_) :: _) _ _; first | refine s_alloc tabOk 2 rfl rfl rfl rfl rfl ?_ | refine s_alloc tabOk 3 rfl rfl rfl rfl rfl ?_ | refine s_alloc tabOk 4 rfl rfl rfl rfl rfl ?_ | fail) | refine s_store envOk rfl rfl (step3_storeRow rfl rfl rfl rfl rfl rfl rfl rfl rfl (at_map (by first | omega | ((try simp only [decide_eq_true_eq, decide_eq_false_iff_not, Bool.not_eq_true', Bool.not_true, Bool.not_false, List.length_map, List.length_set, bne_iff_ne, ne_eq, beq_iff_eq, bne_eq_false_iff_eq, beq_eq_false_iff_ne] at *); omega))) rfl) ?_ | refine s_store envOk rfl rfl rfl ?_ | fail) | (show OkC _ _ _ _ _; first | rw [show p.2.1 = (k : Int) from (by first | omega | ((try simp only [decide_eq_true_eq, decide_eq_false_iff_not, Bool.not_eq_true', Bool.not_true, Bool.not_false, List.length_map, List.length_set, bne_iff_ne, ne_eq, beq_iff_eq, bne_eq_false_iff_eq, beq_eq_false_iff_ne] at *); omega)), row_of hp3 (by first | omega | ((try simp only [decide_eq_true_eq, decide_eq_false_iff_not, Bool.not_eq_true', Bool.not_true, Bool.not_false, List.length_map, List.length_set, bne_iff_ne, ne_eq, beq_iff_eq, bne_eq_false_iff_eq, beq_eq_false_iff_ne] at *); omega)), row_of hp4 (by first | omega | ((try simp only [decide_eq_true_eq, decide_eq_false_iff_not, Bool.not_eq_true', Bool.not_true, Bool.not_false, List.length_map, List.length_set, bne_iff_ne, ne_eq, beq_iff_eq, bne_eq_false_iff_eq, beq_eq_false_iff_ne] at *); omega)), show p.1 = a.dims.length from (by first | omega | ((try simp only [decide_eq_true_eq, decide_eq_false_iff_not, Bool.not_eq_true', Bool.not_true, Bool.not_false, List.length_map, List.length_set, bne_iff_ne, ne_eq, beq_iff_eq, bne_eq_false_iff_eq, beq_eq_false_iff_ne] at *); omega))] | refine ok_seq ?_ | refine ok_region ?_ | refine ok_block ?_ | refine ok_skip ?_ | refine ok_ret ?_ | refine ok_exit ?_ | refine ok_condT rfl ?_ | refine ok_condF rfl ?_ | refine ok_condKF rfl (by assumption) ?_ | refine ok_cond rfl (fun h => ?_) (fun h => ?_) | refine ok_regionD progOk.mo ?_ | refine s_loopN 9 rfl (Imp.trans (imp_adopt (s := 10) (id := 10) (k := 1) (b := 8) rfl rfl rfl rfl) (imp_adopt (s := 11) (id := 12) (k := 1) (b := 8) rfl rfl rfl rfl)) [(2, _), (3, _), (4, _), (7, _), (39, _), (40, _)] (subL_cons rfl (subL_cons rfl (subL_cons rfl (subL_cons rfl (subL_cons rfl (subL_cons rfl subL_nil)))))) (fun (bN : Bool × Bool) (p : Nat × Int × List (List D) × List (List D)) => [(9, .one (.d (.int .i64 p.2.1))), (10, .one (.own (nmA bN) p.1)), (11, .one (.own (nmB bN) p.1)), (41, .one (.d (.int .i64 (p.1 : Int))))]) (fun (bN : Bool × Bool) (p : Nat × Int × List (List D) × List (List D)) => [((nmA bN), .row 1 8 p.2.2.1), ((nmB bN), .row 1 8 p.2.2.2), (0, .box [.d (encDims a.dims), .d (encAttrs a.attrs), .d (encCells a.cells)]), (1, .box [.d (encDims b.dims), .d (encAttrs b.attrs), .d (encCells b.cells)]), (2, .box [.d (encDims (catA a b k).dims), .d (encAttrs (catA a b k).attrs), .d (encCells (catA a b k).cells)])]) (fun (p : Nat × Int × List (List D) × List (List D)) => p.1 ≤ (catA a b k).dims.length ∧ p.2.1 = (if k < p.1 then (k : Int) else -1) ∧ p.2.2.1 = (((catA a b k).dims.map Dim.lo).take p.1).map encInt ∧ p.2.2.2 = (((catA a b k).dims.map Dim.hi).take p.1).map encInt) (fun (p : Nat × Int × List (List D) × List (List D)) => (catA a b k).dims.length - p.1) (0, -1, [], []) (subL_cons rfl (subL_cons rfl (subL_cons rfl (subL_cons rfl subL_nil)))) (by first | exact subL_nil | exact (subL_cons rfl subL_nil) | exact (subL_cons rfl (subL_cons rfl subL_nil)) | exact (subL_cons rfl (subL_cons rfl (subL_cons rfl subL_nil))) | exact (subL_cons rfl (subL_cons rfl (subL_cons rfl (subL_cons rfl subL_nil)))) | exact (subL_cons rfl (subL_cons rfl (subL_cons rfl (subL_cons rfl (subL_cons rfl subL_nil))))) | exact (subL_cons rfl (subL_cons rfl (subL_cons rfl (subL_cons rfl (subL_cons rfl (subL_cons rfl subL_nil)))))) | exact (subL_cons rfl (subL_cons rfl (subL_cons rfl (subL_cons rfl (subL_cons rfl (subL_cons rfl (subL_cons rfl subL_nil))))))) | exact (subL_cons rfl (subL_cons rfl (subL_cons rfl (subL_cons rfl (subL_cons rfl (subL_cons rfl (subL_cons rfl (subL_cons rfl subL_nil))))))))) (fun b y => by obtain ⟨b1, b2⟩ := b; cases b1 <;> cases b2 <;> first | exact Imp.refl _ | exact imp_ren qN (by kernel_rfl)) ?_ (fun p ⟨hp1, hp2, hp3, hp4⟩ => ?_) | fail) | (show thenQ _ _ _ _; first | refine then_n ?_ | refine then_r ?_ | refine then_x ?_ | fail) | (show blockQ _ _ _ _; first | refine block_n ?_ | refine block_x rfl ?_ | fail) | (show RetQ _ _ _ _ _ _; first | refine ret_leaf (.inl rfl) rfl rfl ?_ | fail) | (show DRun _ _ _ _ _ _ _ _; first | (show DRun _ _ _ _ (Oper.mk _ (Op.call _) _ _ _ (_) :: _) _ _ _; first | refine d_new envOk 11 rfl rfl rfl (step3_appendB (i := 10) rfl rfl rfl rfl rfl rfl rfl rfl (by first | omega | ((try simp only [decide_eq_true_eq, decide_eq_false_iff_not, List.length_map, List.length_cons, List.length_nil, List.length_append, Int.toNat_natCast] at *); omega)) (by first | exact Nat.le_of_ble_eq_true rfl | omega | ((try simp only [decide_eq_true_eq, decide_eq_false_iff_not, List.length_map, List.length_cons, List.length_nil, List.length_append, Int.toNat_natCast] at *); omega)) (Nat.le_of_ble_eq_true rfl)) rfl rfl ?_ | refine d_new envOk 13 rfl rfl rfl (step3_appendB (i := 12) rfl rfl rfl rfl rfl rfl rfl rfl (by first | omega | ((try simp only [decide_eq_true_eq, decide_eq_false_iff_not, List.length_map, List.length_cons, List.length_nil, List.length_append, Int.toNat_natCast] at *); omega)) (by first | exact Nat.le_of_ble_eq_true rfl | omega | ((try simp only [decide_eq_true_eq, decide_eq_false_iff_not, List.length_map, List.length_cons, List.length_nil, List.length_append, Int.toNat_natCast] at *); omega)) (Nat.le_of_ble_eq_true rfl)) rfl rfl ?_ | fail) | refine d_nil (by kernel_rfl) ?_ | refine d_e envOk rfl rfl rfl (step3_plain rfl rfl) ?_ | (show DRun _ _ _ _ (Oper.mk _ (Op.binOp .add _ _ _ _) _ _ _ (_) :: _) _ _ _; first | refine d_e envOk rfl rfl rfl (step3_add rfl rfl rfl rfl (wrap64 (by omega) (by omega))) ?_ | fail) | (show DRun _ _ _ _ (Oper.mk _ (Op.indexAddr _ _ _) _ _ _ (_) :: _) _ _ _; first | refine d_e envOk rfl rfl rfl (step3_idxOwn rfl rfl rfl rfl rfl rfl (by omega) (by omega)) ?_ | refine d_e envOk rfl rfl rfl (step3_idx rfl rfl rfl rfl rfl (by omega) (at_map (by omega))) ?_ | fail) | refine d_new envOk 4 rfl rfl rfl rfl rfl rfl ?_ | refine d_new envOk 5 rfl rfl rfl rfl rfl rfl ?_ | refine d_store envOk rfl rfl (step3_storeRow rfl rfl rfl rfl rfl rfl rfl rfl rfl (at_map (by omega)) rfl) ?_ | refine d_store envOk rfl rfl (step3_storeRow rfl rfl rfl rfl rfl rfl rfl rfl rfl (row_get (by assumption) (by first | omega | ((try simp only [decide_eq_true_eq, decide_eq_false_iff_not, Bool.not_eq_true', Bool.not_true, Bool.not_false, List.length_map, List.length_set, bne_iff_ne, ne_eq, beq_iff_eq, bne_eq_false_iff_eq, beq_eq_false_iff_ne] at *); omega))) rfl) ?_ | fail) | (show Exists _; first | refine Exists.intro ((p.1 + 1, (p.1 : Int), p.2.2.1.take p.1 ++ [[.int .i64 (at_ (catA a b k).dims p.1).lo]], p.2.2.2.take p.1 ++ [[.int .i64 (at_ (catA a b k).dims p.1).hi]])) (Exists.intro (true, true) ⟨?_, ?_, (by first | exact subL_nil | exact (subL_cons rfl subL_nil) | exact (subL_cons rfl (subL_cons rfl subL_nil)) | exact (subL_cons rfl (subL_cons rfl (subL_cons rfl subL_nil))) | exact (subL_cons rfl (subL_cons rfl (subL_cons rfl (subL_cons rfl subL_nil)))) | exact (subL_cons rfl (subL_cons rfl (subL_cons rfl (subL_cons rfl (subL_cons rfl subL_nil))))) | exact (subL_cons rfl (subL_cons rfl (subL_cons rfl (subL_cons rfl (subL_cons rfl (subL_cons rfl subL_nil)))))) | exact (subL_cons rfl (subL_cons rfl (subL_cons rfl (subL_cons rfl (subL_cons rfl (subL_cons rfl (subL_cons rfl subL_nil))))))) | exact (subL_cons rfl (subL_cons rfl (subL_cons rfl (subL_cons rfl (subL_cons rfl (subL_cons rfl (subL_cons rfl (subL_cons rfl subL_nil))))))))), (subL_cons rfl (subL_cons rfl (subL_cons rfl (subL_cons rfl subL_nil)))), (subL_cons rfl (subL_cons rfl (subL_cons rfl (subL_cons rfl (subL_cons rfl (subL_cons rfl subL_nil))))))⟩) | refine Exists.intro ((p.1 + 1, p.2.1, p.2.2.1.take p.1 ++ [[.int .i64 (at_ (catA a b k).dims p.1).lo]], p.2.2.2.take p.1 ++ [[.int .i64 (at_ (catA a b k).dims p.1).hi]])) (Exists.intro (true, true) ⟨?_, ?_, (by first | exact subL_nil | exact (subL_cons rfl subL_nil) | exact (subL_cons rfl (subL_cons rfl subL_nil)) | exact (subL_cons rfl (subL_cons rfl (subL_cons rfl subL_nil))) | exact (subL_cons rfl (subL_cons rfl (subL_cons rfl (subL_cons rfl subL_nil)))) | exact (subL_cons rfl (subL_cons rfl (subL_cons rfl (subL_cons rfl (subL_cons rfl subL_nil))))) | exact (subL_cons rfl (subL_cons rfl (subL_cons rfl (subL_cons rfl (subL_cons rfl (subL_cons rfl subL_nil)))))) | exact (subL_cons rfl (subL_cons rfl (subL_cons rfl (subL_cons rfl (subL_cons rfl (subL_cons rfl (subL_cons rfl subL_nil))))))) | exact (subL_cons rfl (subL_cons rfl (subL_cons rfl (subL_cons rfl (subL_cons rfl (subL_cons rfl (subL_cons rfl (subL_cons rfl subL_nil))))))))), (subL_cons rfl (subL_cons rfl (subL_cons rfl (subL_cons rfl subL_nil)))), (subL_cons rfl (subL_cons rfl (subL_cons rfl (subL_cons rfl (subL_cons rfl (subL_cons rfl subL_nil))))))⟩) | fail) | fail)
  · exact ⟨Nat.zero_le _, by show (-1 : Int) = if k < 0 then _ else _; simp, by simp, by simp⟩
  · have hlt : p.1 < (catA a b k).dims.length := by simpa using ‹decide ((p.1 : Int) < (((catA a b k).dims.map encDim).length : Int)) = true›
    have hpk : p.1 = k := hnm p.1 (by omega) (by simpa using h)
    refine ⟨hlt, ?_, rowD hp3 hlt, rowD hp4 hlt⟩
    show (p.1 : Int) = if k < p.1 + 1 then (k : Int) else -1
    rw [if_pos (by omega), hpk]
  · have hlt : p.1 < (catA a b k).dims.length := by simpa using ‹decide ((p.1 : Int) < (((catA a b k).dims.map encDim).length : Int)) = true›
    show (catA a b k).dims.length - (p.1 + 1) < (catA a b k).dims.length - p.1
    omega
  · have hlt : p.1 < (catA a b k).dims.length := by simpa using ‹decide ((p.1 : Int) < (((catA a b k).dims.map encDim).length : Int)) = true›
    have hpk : p.1 ≠ k := fun e => by
      have h' : ((at_ (catA a b k).dims p.1).name == name) = false := h
      rw [e, hC.cdim hkl, if_pos rfl] at h'
      have h2 : (catDim a b k).name = name := (hC.nms k hkl).symm.trans hC.nm
      simp [h2] at h'
    refine ⟨hlt, ?_, rowD hp3 hlt, rowD hp4 hlt⟩
    show p.2.1 = if k < p.1 + 1 then (k : Int) else -1
    rw [hp2]
    by_cases h3 : k < p.1
    · rw [if_pos h3, if_pos (by omega)]
    · rw [if_neg h3, if_neg (by omega)]
  · have hlt : p.1 < (catA a b k).dims.length := by simpa using ‹decide ((p.1 : Int) < (((catA a b k).dims.map encDim).length : Int)) = true›
    show (catA a b k).dims.length - (p.1 + 1) < (catA a b k).dims.length - p.1
    omega
  · simp [hcl] at h
  · simp at h
  rotate_left
  · simp [catA, sortF_length] at h
  have hsl : ∀ i, i < b.cells.length → (List.map encInt (at_ (b.cells.map (shiftC k (byF a b k))) i).at').length ≤ 100000 := fun i hi => by
    rw [(hbl i hi).1, List.length_map, mov_len, (hbl i hi).2.1]; omega
  have hix : ∀ i, i < b.cells.length → ((k : Nat) : Int) < ((0 + (List.map encInt (at_ (b.cells.map (shiftC k (byF a b k))) i).at').length : Nat) : Int) := fun i hi => by
    rw [(hbl i hi).1, List.length_map, mov_len, (hbl i hi).2.1]; omega
  have hld : ∀ i, i < b.cells.length → (List.take 0 [] ++ List.map encInt (at_ (b.cells.map (shiftC k (byF a b k))) i).at')[((k : Nat) : Int).toNat]? = some (encInt (at_ (at_ (b.cells.map (shiftC k (byF a b k))) i).at' ((k : Nat) : Int).toNat)) := fun i hi => by
    rw [List.take_zero, List.nil_append]
    exact at_map (by rw [(hbl i hi).1, mov_len, (hbl i hi).2.1]; exact hkl)
  have hmk : ∀ i, i < b.cells.length → at_ (at_ (b.cells.map (shiftC k (byF a b k))) i).at' k = at_ (at_ b.cells i).at' k + byF a b k := fun i hi => by
    rw [(hbl i hi).1, at_mov (by rw [(hbl i hi).2.1]; exact hkl), if_pos rfl]
  have hsb : ∀ i, i < b.cells.length → IntKind.i64.wrap (at_ (at_ (b.cells.map (shiftC k (byF a b k))) i).at' ((k : Nat) : Int).toNat - ((at_ a.dims ((k : Nat) : Int).toNat).hi - (at_ b.dims ((k : Nat) : Int).toNat).lo + 1)) = at_ (at_ b.cells i).at' k := fun i hi => by
    have h3 := (hC.bcell (at_mem hi)).2.2.2 k hkl
    rw [lastF_le hC.hb] at h3
    have h4 : -1073741824 ≤ (at_ b.dims k).lo := bb.1
    have h5 : (at_ b.dims k).hi ≤ 1073741825 := bb.2.2.2
    have e : at_ (at_ (b.cells.map (shiftC k (byF a b k))) i).at' ((k : Nat) : Int).toNat - ((at_ a.dims ((k : Nat) : Int).toNat).hi - (at_ b.dims ((k : Nat) : Int).toNat).lo + 1) = at_ (at_ b.cells i).at' k := by
      show at_ (at_ (b.cells.map (shiftC k (byF a b k))) i).at' k - ((at_ a.dims k).hi - (at_ b.dims k).lo + 1) = _
      rw [hmk i hi]; unfold byF; omega
    rw [e]
    exact wrap64 (by omega) (by omega)
  have hcz : ∀ i, i < b.cells.length → List.take (0 + (List.map encInt (at_ (b.cells.map (shiftC k (byF a b k))) i).at').length) ((List.take 0 [] ++ List.map encInt (at_ (b.cells.map (shiftC k (byF a b k))) i).at').set k [.int .i64 (at_ (at_ b.cells i).at' k)]) = (at_ b.cells i).at'.map encInt := fun i hi => by
    rw [List.take_zero, List.nil_append, Nat.zero_add, show [D.int .i64 (at_ (at_ b.cells i).at' k)] = encInt (at_ (at_ b.cells i).at' k) from rfl, set_map_take (by rw [List.length_map]; exact Nat.le_refl _), (hbl i hi).1]
    congr 1
    refine at_ext (by simp [mov_len]) fun j hj => ?_
    have hj' : j < (at_ b.cells i).at'.length := by simpa [mov_len] using hj
    rw [at_set (by rw [mov_len]; exact hj'), at_mov hj']
    by_cases e : j = k
    · rw [if_pos e, e]
    · rw [if_neg e, if_neg e]
  have hvz : ∀ i, i < b.cells.length → (at_ (b.cells.map (shiftC k (byF a b k))) i).vals = (at_ b.cells i).vals := fun i hi => (hbl i hi).2.2
  repeat' (first | (show OkOps _ _ _ _ _ _; first | (show OkOps _ _ _ (Oper.mk _ (Op.call _) _ _ _ (_) :: _) _ _; first | refine s_append tabOk rfl rfl rfl rfl rfl rfl rfl rfl rfl rfl rfl rfl rfl (Nat.zero_le _) (hsl _ (by first | omega | ((try simp only [decide_eq_true_eq, decide_eq_false_iff_not, Bool.not_eq_true', Bool.not_true, Bool.not_false, List.length_map, List.length_set, bne_iff_ne, ne_eq, beq_iff_eq, bne_eq_false_iff_eq, beq_eq_false_iff_ne] at *); omega))) (Nat.le_of_ble_eq_true rfl) ?_ | fail) | refine okops_nil ?_ | refine s_plain tabOk rfl rfl rfl rfl rfl ?_ | (show OkOps _ _ _ (Oper.mk _ (Op.binOp .add _ _ _ _) _ _ _ (_) :: _) _ _; first | refine s_e envOk rfl rfl rfl (step3_add rfl rfl rfl rfl (wrap64 (by omega) (by omega))) ?_ | fail) | (show OkOps _ _ _ (Oper.mk _ (Op.indexAddr _ _ _) _ _ _ (_) :: _) _ _; first | refine s_e envOk rfl rfl rfl (step3_idx rfl rfl rfl rfl rfl (by first | omega | ((try simp only [decide_eq_true_eq, decide_eq_false_iff_not, Bool.not_eq_true', Bool.not_true, Bool.not_false, List.length_map, List.length_set, bne_iff_ne, ne_eq, beq_iff_eq, bne_eq_false_iff_eq, beq_eq_false_iff_ne] at *); omega)) (at_map (by first | omega | ((try simp only [decide_eq_true_eq, decide_eq_false_iff_not, Bool.not_eq_true', Bool.not_true, Bool.not_false, List.length_map, List.length_set, bne_iff_ne, ne_eq, beq_iff_eq, bne_eq_false_iff_eq, beq_eq_false_iff_ne] at *); omega)))) ?_ | fail) | (show OkOps _ _ _ (Oper.mk _ (Op.call _) _ _ _ (_) :: _) _ _; first | refine s_callF rfl rfl rfl rfl rfl rfl rfl rfl (c19) rfl ?_ | fail) | (show OkOps _ _ _ (Oper.mk _ (Op.alloc _) _ _ _ (_) :: _) _ _; first | refine s_alloc tabOk 2 rfl rfl rfl rfl rfl ?_ | fail) | refine s_store envOk rfl rfl rfl ?_ | refine s_new envOk 3 rfl rfl rfl rfl rfl rfl ?_ | fail) | (show OkC _ _ _ _ _; first | refine ok_seq ?_ | refine ok_region ?_ | refine ok_block ?_ | refine ok_skip ?_ | refine ok_ret ?_ | refine ok_exit ?_ | refine ok_condF rfl ?_ | refine ok_cond rfl (fun h => ?_) (fun h => ?_) | refine ok_regionD progOk.mo ?_ | refine s_loopM 24 rfl [(3, _), (4, _), (9, _), (150, _), (151, _)] (subL_cons rfl (subL_cons rfl (subL_cons rfl (subL_cons rfl (subL_cons rfl subL_nil))))) (fun (q : Nat) => [(152, .one (.d (.int .i64 (q : Int))))]) (fun (q : Nat) => [(0, .box [.d (encDims a.dims), .d (encAttrs a.attrs), .d (encCells a.cells)]), (1, .box [.d (encDims b.dims), .d (encAttrs b.attrs), .d (encCells b.cells)])]) (fun (q : Nat) => q ≤ b.cells.length) (fun (q : Nat) => b.cells.length - q) 0 (subL_cons rfl subL_nil) (by first | exact subL_nil | exact (subL_cons rfl subL_nil) | exact (subL_cons rfl (subL_cons rfl subL_nil)) | exact (subL_cons rfl (subL_cons rfl (subL_cons rfl subL_nil))) | exact (subL_cons rfl (subL_cons rfl (subL_cons rfl (subL_cons rfl subL_nil)))) | exact (subL_cons rfl (subL_cons rfl (subL_cons rfl (subL_cons rfl (subL_cons rfl subL_nil))))) | exact (subL_cons rfl (subL_cons rfl (subL_cons rfl (subL_cons rfl (subL_cons rfl (subL_cons rfl subL_nil)))))) | exact (subL_cons rfl (subL_cons rfl (subL_cons rfl (subL_cons rfl (subL_cons rfl (subL_cons rfl (subL_cons rfl subL_nil))))))) | exact (subL_cons rfl (subL_cons rfl (subL_cons rfl (subL_cons rfl (subL_cons rfl (subL_cons rfl (subL_cons rfl (subL_cons rfl subL_nil))))))))) ?_ (fun q hq => ?_) | fail) | (show thenQ _ _ _ _; first | refine then_n ?_ | refine then_x ?_ | fail) | (show blockQ _ _ _ _; first | refine block_n ?_ | refine block_x rfl ?_ | fail) | (show RetQ _ _ _ _ _ _; first | refine ret_leaf (.inl rfl) rfl rfl ?_ | fail) | (show DRun _ _ _ _ _ _ _ _; first | (show DRun _ _ _ _ (Oper.mk _ (Op.indexAddr _ _ _) _ _ _ (_) :: _) _ _ _; first | refine d_e envOk rfl rfl rfl (step3_idxOwn rfl rfl rfl rfl rfl rfl (Int.natCast_nonneg _) (hix _ (by first | omega | ((try simp only [decide_eq_true_eq, decide_eq_false_iff_not, Bool.not_eq_true', Bool.not_true, Bool.not_false, List.length_map, List.length_set, bne_iff_ne, ne_eq, beq_iff_eq, bne_eq_false_iff_eq, beq_eq_false_iff_ne] at *); omega)))) ?_ | fail) | (show DRun _ _ _ _ (Oper.mk _ (Op.load _ _) _ _ _ (_) :: _) _ _ _; first | refine d_e envOk rfl rfl rfl (step3_loadRow rfl rfl rfl rfl (hld _ (by first | omega | ((try simp only [decide_eq_true_eq, decide_eq_false_iff_not, Bool.not_eq_true', Bool.not_true, Bool.not_false, List.length_map, List.length_set, bne_iff_ne, ne_eq, beq_iff_eq, bne_eq_false_iff_eq, beq_eq_false_iff_ne] at *); omega))) rfl) ?_ | fail) | (show DRun _ _ _ _ (Oper.mk _ (Op.binOp .sub _ _ _ _) _ _ _ (_) :: _) _ _ _; first | refine d_e envOk rfl rfl rfl (step3_sub rfl rfl rfl rfl (hsb _ (by first | omega | ((try simp only [decide_eq_true_eq, decide_eq_false_iff_not, Bool.not_eq_true', Bool.not_true, Bool.not_false, List.length_map, List.length_set, bne_iff_ne, ne_eq, beq_iff_eq, bne_eq_false_iff_eq, beq_eq_false_iff_ne] at *); omega)))) ?_ | fail) | (show DRun _ _ _ _ (Oper.mk _ (Op.store _ _ _) _ _ _ (_) :: _) _ _ _; first | refine d_store envOk rfl rfl (step3_storeRow rfl rfl rfl rfl rfl rfl rfl rfl rfl (hld _ (by first | omega | ((try simp only [decide_eq_true_eq, decide_eq_false_iff_not, Bool.not_eq_true', Bool.not_true, Bool.not_false, List.length_map, List.length_set, bne_iff_ne, ne_eq, beq_iff_eq, bne_eq_false_iff_eq, beq_eq_false_iff_ne] at *); omega))) rfl) ?_ | fail) | (show DRun _ _ _ _ (Oper.mk _ (Op.call _) _ _ _ (_) :: _) _ _ _; first | refine d_callF [3] rfl rfl rfl rfl rfl rfl rfl rfl rfl (c35z (at_ b.cells _).at' _ (hcz _ (by first | omega | ((try simp only [decide_eq_true_eq, decide_eq_false_iff_not, Bool.not_eq_true', Bool.not_true, Bool.not_false, List.length_map, List.length_set, bne_iff_ne, ne_eq, beq_iff_eq, bne_eq_false_iff_eq, beq_eq_false_iff_ne] at *); omega)))) rfl ?_ | fail) | (show DRun _ _ _ _ (Oper.mk _ (Op.call _) _ _ _ (_) :: _) _ _ _; first | refine d_l rfl rfl (loc_callF' rfl rfl rfl rfl rfl rfl (c36s _ _ (hvz _ (by first | omega | ((try simp only [decide_eq_true_eq, decide_eq_false_iff_not, Bool.not_eq_true', Bool.not_true, Bool.not_false, List.length_map, List.length_set, bne_iff_ne, ne_eq, beq_iff_eq, bne_eq_false_iff_eq, beq_eq_false_iff_ne] at *); omega)))) rfl) ?_ | fail) | refine d_nil (by kernel_rfl) ?_ | refine d_e envOk rfl rfl rfl (step3_plain rfl rfl) ?_ | (show DRun _ _ _ _ (Oper.mk _ (_) _ _ _ (some _) :: _) _ _ _; first | refine d_strip rfl rfl (by first | assumption | rfl) ?_ | fail) | (show DRun _ _ _ _ (Oper.mk _ (Op.binOp .add _ _ _ _) _ _ _ (_) :: _) _ _ _; first | refine d_e envOk rfl rfl rfl (step3_add rfl rfl rfl rfl (wrap64 (by omega) (by omega))) ?_ | fail) | (show DRun _ _ _ _ (Oper.mk _ (Op.binOp .sub _ _ _ _) _ _ _ (_) :: _) _ _ _; first | refine d_e envOk rfl rfl rfl (step3_sub rfl rfl rfl rfl (wrap64 (by omega) (by omega))) ?_ | fail) | (show DRun _ _ _ _ (Oper.mk _ (Op.pick _ _ _) _ _ _ (_) :: _) _ _ _; first | refine d_e envOk rfl rfl rfl (step3_pickF rfl rfl (by first | rfl | assumption) rfl) ?_ | fail) | (show DRun _ _ _ _ (Oper.mk _ (Op.indexAddr _ _ _) _ _ _ (_) :: _) _ _ _; first | refine d_e envOk rfl rfl rfl (step3_idx rfl rfl rfl rfl rfl (by omega) (at_map (by omega))) ?_ | refine d_e envOk rfl rfl rfl (step3_idx rfl rfl rfl rfl rfl (by first | omega | ((try simp only [decide_eq_true_eq, decide_eq_false_iff_not, Bool.not_eq_true', Bool.not_true, Bool.not_false, List.length_map, List.length_set, bne_iff_ne, ne_eq, beq_iff_eq, bne_eq_false_iff_eq, beq_eq_false_iff_ne] at *); omega)) (at_map (by first | omega | ((try simp only [decide_eq_true_eq, decide_eq_false_iff_not, Bool.not_eq_true', Bool.not_true, Bool.not_false, List.length_map, List.length_set, bne_iff_ne, ne_eq, beq_iff_eq, bne_eq_false_iff_eq, beq_eq_false_iff_ne] at *); omega)))) ?_ | fail) | fail) | (show Exists _; first | refine Exists.intro (q + 1) ⟨?_, ?_, (by first | exact subL_nil | exact (subL_cons rfl subL_nil) | exact (subL_cons rfl (subL_cons rfl subL_nil)) | exact (subL_cons rfl (subL_cons rfl (subL_cons rfl subL_nil))) | exact (subL_cons rfl (subL_cons rfl (subL_cons rfl (subL_cons rfl subL_nil)))) | exact (subL_cons rfl (subL_cons rfl (subL_cons rfl (subL_cons rfl (subL_cons rfl subL_nil))))) | exact (subL_cons rfl (subL_cons rfl (subL_cons rfl (subL_cons rfl (subL_cons rfl (subL_cons rfl subL_nil)))))) | exact (subL_cons rfl (subL_cons rfl (subL_cons rfl (subL_cons rfl (subL_cons rfl (subL_cons rfl (subL_cons rfl subL_nil))))))) | exact (subL_cons rfl (subL_cons rfl (subL_cons rfl (subL_cons rfl (subL_cons rfl (subL_cons rfl (subL_cons rfl (subL_cons rfl subL_nil))))))))), (subL_cons rfl subL_nil), (subL_cons rfl (subL_cons rfl (subL_cons rfl (subL_cons rfl (subL_cons rfl subL_nil)))))⟩ | fail) | fail)
  · omega
  · have hlt : q < b.cells.length := by simpa using h
    omega
  · have hlt : q < b.cells.length := by simpa using h
    omega
  · rfl
end Go.Proofs.YtpejdgkaapnekaaGreat

namespace Go.Proofs.YtpejdgkaapnekaaGreat
open Go Go.Abs
open Go.ChangeShapes Go.WideShapes Go.ChangeAt Go.RowKit
set_option maxRecDepth 100000 in
theorem parts_contract (H : Type) (en : TypeId × Value → H) (W : World) (base : Nat) (args : Array Value) (ds gs : List (DataW H)) (before : List MemPlace)
    (hval : ∀ (j : Nat) t v, Tryz.f7.params[j]? = some t → args[j]? = some v → Value.okWide Tryz.prog W .any base t v)
    (hW : DataW.Whole en Tryz.prog Tryz.f7.params.toList Rows.algebraPartsSpec.vars false W args.toList ds gs before) (hk : Rows.uptoSmall H (ds ++ gs) = true) :
    Calls Tryz.prog 7 args W fun e W' => ∃ v, e = .returned v ∧ Rows.algebraPartsSpec.post en Tryz.prog Tryz.f7 false true false false W args v W' := by
  have hW' := hW
  obtain ⟨p, q, hA0, hV, rfl, hfz, hnd⟩ := hW
  have hA : DataW.TrodAll en Tryz.prog W 0 (fun _ => true) true Tryz.f7.params.toList args.toList ds p := hA0
  rw [Tryz.params7] at hA hval
  obtain ⟨v0, vs0, d0, ds0, p0, q0, hargs, rfl, rfl, h0, r0⟩ := trodAll_cons hA
  obtain ⟨v1, vs1, d1, ds1, p1, q1, rfl, rfl, rfl, h1, r1⟩ := trodAll_cons r0
  obtain ⟨v2, vs2, d2, ds2, p2, q2, rfl, rfl, rfl, h2, r2⟩ := trodAll_cons r1
  obtain ⟨rfl, rfl, rfl⟩ := trodAll_nil r2
  obtain rfl : args = #[v0, v1, v2] := by cases args; simp_all
  obtain ⟨rfl, rfl⟩ := trodVars_none hV
  obtain ⟨cs0, rfl⟩ := okWide_agg Tryz.underlying26 (hval 0 26 v0 rfl rfl)
  obtain ⟨cs1, rfl⟩ := okWide_agg Tryz.underlying26 (hval 1 26 v1 rfl rfl)
  obtain ⟨s2, rfl⟩ := okWide_string Tryz.underlying9 (hval 2 9 v2 rfl rfl)
  have hbk : (Rows.uptoBulk d0 + (Rows.uptoBulk d1 + (Rows.uptoBulk d2))) ≤ 1048576 := by
    simpa [Rows.uptoSmall, Rows.uptoBulkAll] using hk
  obtain ⟨f0, h0⟩ := h0
  obtain ⟨f1, h1⟩ := h1
  obtain ⟨f2, h2⟩ := h2
  obtain ⟨a0, ha0⟩ := rd_arr (N := 1048571) (by omega) f0 _ _ h0 (by show Rows.uptoBulk d0 ≤ _; omega)
  obtain ⟨a1, ha1⟩ := rd_arr (N := 1048571) (by omega) f1 _ _ h1 (by show Rows.uptoBulk d1 ≤ _; omega)
  obtain ⟨a2, ha2⟩ := rd_str (N := 1048576) (by omega) Tryz.underlying9 f2 _ _ h2 (by show Rows.uptoBulk d2 ≤ _; omega)
  refine ((c7 a0 a1 a2).run W (sg W) (fun _ => none) [.agg cs0.toArray, .agg cs1.toArray, .string s2] (sg_inv _) ⟨⟨cs0, rfl, all2_d ha0⟩, ⟨cs1, rfl, all2_d ha1⟩, RepC.d ha2.1, trivial⟩).mono fun e W' ⟨v, σ', φ', he, hret⟩ => ?_
  subst he
  have hv : v = .bool true := by
    have h2 := RepC.d_inv hret.rep
    cases h2; rfl
  subst hv
  have hsame : ∀ p ∈ p0 ++ (p1 ++ (p2 ++ [])), W.sameAt W' p := fun p hp => keptSame hret.kept (hW'.lt p (by simpa using hp))
  have hAk := carryAll hA0 hsame
  exact ⟨_, rfl, _, _, _, [], _, [], hW', trodAll_mk1 (shutBool true), DataW.TrodAll.respare kids full (by
      rw [Tryz.params7]
      intro t ht
      have ht' : t = 26 ∨ t = 26 ∨ t = 9 := by simpa using ht
      rcases ht' with rfl | rfl | rfl <;> exact few (by omega)) hAk (fun p hp => by
        have := hW'.lt p (by simpa using hp)
        simpa using this), rfl, keptAll hret.kept _, fun h => by cases h⟩
end Go.Proofs.YtpejdgkaapnekaaGreat
