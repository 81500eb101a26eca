import Derived.Test.YtpejdgkaapnekaaGreatP6
import Derived.Test.YtpejdgkaapnekaaGreatE1
set_option linter.unusedVariables false
set_option linter.unusedSimpArgs false
namespace Go.Proofs.YtpejdgkaapnekaaGreat
open Go Go.Abs
attribute [local irreducible] OkOps OkC DRun thenQ blockQ RetQ
set_option maxRecDepth 10000
def okType (t : Int) : Bool := decide (1 ≤ t) && decide (t ≤ 4)
def exTypeF (op : Int) (l : List Int) : Int × Int :=
  if l.all okType then (if typedF op (at_ l 0) (at_ l 1) (at_ l 2) = 0 then (0, 12) else (typedF op (at_ l 0) (at_ l 1) (at_ l 2), 0)) else (0, 2)
end Go.Proofs.YtpejdgkaapnekaaGreat
namespace Go.Proofs.YtpejdgkaapnekaaGreat
open Go Go.Abs
end Go.Proofs.YtpejdgkaapnekaaGreat
namespace Go.Proofs.YtpejdgkaapnekaaGreat
open Go Go.Abs
attribute [local irreducible] OkOps OkC DRun thenQ blockQ RetQ
set_option maxRecDepth 10000
end Go.Proofs.YtpejdgkaapnekaaGreat
namespace Go.Proofs.YtpejdgkaapnekaaGreat
open Go Go.Abs
def atI (ats : List Attr) (name : List UInt8) : Int := idxGo (fun a : Attr => a.name == name) ats 0
def dimI (ds : List Dim) (name : List UInt8) : Int := idxGo (fun a : Dim => a.name == name) ds 0
def tyAttr (ats : List Attr) (name : List UInt8) : Int × Int := if atI ats name < 0 then (0, 11) else ((at_ ats (atI ats name).toNat).type, 0)
def tyDim (ds : List Dim) (name : List UInt8) : Int × Int := if dimI ds name < 0 then (0, 11) else (2, 0)
mutual
def typR (cst : Val → Int) (ds : List Dim) (ats : List Attr) : Scalar → Int × Int
  | .mk o n v a => if o = 1 then (cst v, 0) else if o = 2 then tyAttr ats n else if o = 3 then tyDim ds n else
    match typRs cst ds ats a with
    | .inl e => (0, e)
    | .inr l => exTypeF o l
def typRs (cst : Val → Int) (ds : List Dim) (ats : List Attr) : List Scalar → Sum Int (List Int)
  | [] => .inr []
  | x :: r => if (typR cst ds ats x).2 ≠ 0 then .inl (typR cst ds ats x).2 else
    match typRs cst ds ats r with
    | .inl e => .inl e
    | .inr l => .inr ((typR cst ds ats x).1 :: l)
end
end Go.Proofs.YtpejdgkaapnekaaGreat
namespace Go.Proofs.YtpejdgkaapnekaaGreat
open Go Go.Abs
attribute [local irreducible] OkOps OkC DRun thenQ blockQ RetQ
set_option maxRecDepth 10000
theorem op_cases22 {op : Int} (h : 1 ≤ op ∧ op ≤ 22) : op = 1 ∨ op = 2 ∨ op = 3 ∨ op = 4 ∨ op = 5 ∨ op = 6 ∨ op = 7 ∨ op = 8 ∨ op = 9 ∨ op = 10 ∨ op = 11 ∨ op = 12 ∨ op = 13 ∨ op = 14 ∨ op = 15 ∨ op = 16 ∨ op = 17 ∨ op = 18 ∨ op = 19 ∨ op = 20 ∨ op = 21 ∨ op = 22 := by omega
theorem needAt {op : Int} (h : 1 ≤ op ∧ op ≤ 22) : idxA env.T 208 (some (.one (.d (.int .i64 op)))) (some (.agg needsL)) = some (.agg [.d (.int .i64 (arity op)), .d (.bool (decide (op = 2) || decide (op = 3))), .d (.bool (decide (op = 1)))]) := by
  rcases op_cases22 h with rfl | rfl | rfl | rfl | rfl | rfl | rfl | rfl | rfl | rfl | rfl | rfl | rfl | rfl | rfl | rfl | rfl | rfl | rfl | rfl | rfl | rfl <;> rfl
theorem c173 (s : Scalar) : CallA Tryz.prog 173 [aggS s] [] (.one (.d (.bool (partF s)))) [] := by
  refine enter tabOk Tryz.func173 rfl (by decide +kernel) rfl fun hok w0 σ0 φ0 M => ?_
  clear hok
  repeat' (first | (show OkOps _ _ _ _ _ _; first | refine okops_nil ?_ | refine s_plain tabOk rfl rfl rfl rfl rfl ?_ | (show OkOps _ _ _ (Oper.mk _ (_) _ _ _ (some _) :: _) _ _; first | refine s_guard rfl rfl (by first | assumption | rfl) ?_ | refine s_out rfl rfl (by first | assumption | rfl) rfl rfl ?_ | refine s_outN rfl rfl rfl rfl ?_ | refine s_split rfl rfl rfl rfl (fun h => ?_) (fun h => ?_) | fail) | (show OkOps _ _ _ (Oper.mk _ (Op.pick _ _ _) _ _ _ (_) :: _) _ _; first | refine s_e envOk rfl rfl rfl (step3_pickT rfl rfl (by first | rfl | assumption) rfl) ?_ | refine s_e envOk rfl rfl rfl (step3_pickF rfl rfl (by first | rfl | assumption) rfl) ?_ | fail) | (show OkOps _ _ _ (Oper.mk _ (Op.call _) _ _ _ (_) :: _) _ _; first | refine s_callF rfl rfl rfl rfl rfl rfl rfl rfl (c225 _ _ _ _) rfl ?_ | fail) | (show OkOps _ _ _ (Oper.mk _ (Op.box _ _) _ _ _ (_) :: _) _ _; first | refine s_box 0 rfl rfl rfl rfl rfl rfl ?_ | fail) | refine s_e envOk rfl rfl rfl rfl ?_ | fail) | (show OkC _ _ _ _ _; first | refine ok_seq ?_ | refine ok_region ?_ | refine ok_skip ?_ | refine ok_ret ?_ | refine ok_condT rfl ?_ | refine ok_cond rfl (fun h => ?_) (fun h => ?_) | refine ok_regionD progOk.mo ?_ | fail) | (show thenQ _ _ _ _; first | refine then_n ?_ | refine then_r ?_ | fail) | (show RetQ _ _ _ _ _ _; first | refine ret_leaf (.inl rfl) rfl rfl ?_ | fail) | (show DRun _ _ _ _ _ _ _ _; first | refine d_nil (by kernel_rfl) ?_ | refine d_e envOk rfl rfl rfl (step3_plain rfl rfl) ?_ | (show DRun _ _ _ _ (Oper.mk _ (Op.index _ _ _) _ _ _ (_) :: _) _ _ _; first | refine d_e envOk rfl rfl rfl (step3_idxArr rfl rfl rfl rfl (needAt (by first | omega | ((try simp only [decide_eq_true_eq, decide_eq_false_iff_not, Bool.not_eq_true', Bool.not_true, Bool.not_false, List.length_map, List.length_set, bne_iff_ne, ne_eq, beq_iff_eq, bne_eq_false_iff_eq, beq_eq_false_iff_ne] at *); omega)))) ?_ | fail) | (show DRun _ _ _ _ (Oper.mk _ (Op.call _) _ _ _ (_) :: _) _ _ _; first | refine d_l rfl rfl (loc_callF' rfl rfl rfl rfl rfl rfl (c224) rfl) ?_ | fail) | refine d_new envOk 1 rfl rfl rfl rfl rfl rfl ?_ | refine d_store envOk rfl rfl rfl ?_ | fail) | fail)
  all_goals (try rw [zeroV_eq] at *)
  all_goals (try (((simp_all [partF, arity, zeroV_eq, at_drop, List.drop_eq_nil_of_le]) <;> first | omega | (rw [Bool.eq_iff_iff]; simp; omega) | grind); done))
end Go.Proofs.YtpejdgkaapnekaaGreat
namespace Go.Proofs.YtpejdgkaapnekaaGreat
open Go Go.Abs
attribute [local irreducible] OkOps OkC DRun thenQ blockQ RetQ OkR normQ RoundQ AssignQ retQ
set_option maxRecDepth 10000
def st87 (d : Bool) : LoopState := if d then .done else .ready
def pe87 (d : Bool) : Option Code := if d then some .ret else none
def sto87 (li : LI) (fr : List (Nat × AV)) (a : Int × Bool × Bool) : Sto :=
  [(1000000, .loop li fr (st87 a.2.2) (pe87 a.2.2)), (1000001, .box [.d (.int .i64 (if a.2.2 then 9 else 0))]), (1000002, .box [.d (.int .i64 a.1)]), (1000003, .box [.d (.bool a.2.1)])]
def F87 (a : Int × Bool × Bool) (x : Scalar) : Bool × (Int × Bool × Bool) := if 64 < a.1 + 1 then (false, (a.1 + 1, a.2.1, true)) else (true, (a.1 + 1, a.2.1 && partF x, false))
def ok87 (a : Int × Bool × Bool) (x : Scalar) : Prop := a.2.2 = false ∧ 0 ≤ a.1 ∧ a.1 ≤ 64
theorem form_run : ∀ (l : List Scalar) (n : Int) (r : Bool), 0 ≤ n → n ≤ 64 → OkRun F87 ok87 l (n, r, false) ∧ formGo l n r = (if (runF F87 l (n, r, false)).2.2.2 = true then 9 else if (runF F87 l (n, r, false)).2.2.1 = true then 0 else 2)
  | [], n, r, h0, h1 => ⟨trivial, rfl⟩
  | x :: l, n, r, h0, h1 => by
    simp only [OkRun, runF, formGo, F87, ok87]
    by_cases h : 64 < n + 1
    · simp only [h, if_true]
      exact ⟨⟨⟨trivial, h0, h1⟩, fun h => by cases h⟩, rfl⟩
    · have ih := form_run l (n + 1) (r && partF x) (by omega) (by omega)
      simp only [h, if_false, if_true]
      exact ⟨⟨⟨trivial, h0, h1⟩, fun _ => ih.1⟩, ih.2⟩
theorem fam87 (li : LI) (fr : List (Nat × AV)) (hf : ∀ a, frIn (sto87 li fr a) fr = true) : FamW (sto87 li fr) := by
  refine ⟨fun a i e h => ?_, fun a => ?_, fun a => ⟨li, fr, st87 a.2.2, pe87 a.2.2, rfl⟩, fun a => rfl⟩
  · unfold sto87 at h
    rcases look_cons h with ⟨rfl, _⟩ | ⟨_, h⟩
    · omega
    rcases look_cons h with ⟨rfl, _⟩ | ⟨_, h⟩
    · omega
    rcases look_cons h with ⟨rfl, _⟩ | ⟨_, h⟩
    · omega
    rcases look_cons h with ⟨rfl, _⟩ | ⟨_, h⟩
    · omega
    · exact nomatch h
  · show (frIn (sto87 li fr a) fr && _) = true
    rw [hf a]; rfl
theorem y87 {li : LI} {fr : List (Nat × AV)} (a : Int × Bool × Bool) (x : Scalar) (hok : ok87 a x)
    (hps : (allBlt li.n li.params.toList && Nat.beq li.params.toList.length 1) = true)
    (h : ∀ (n : Int) (r : Bool), 0 ≤ n → n ≤ 64 → ∀ (w0 : World) (σ0 : Sig) (φ0 : Pl) (M : Nat → Prop) (B : Nat), OkC Tryz.prog ⟨w0, σ0, φ0, M, li.n, some B, []⟩ li.assign ⟨roundFr li.params.toList [aggS x] fr, sto87 li fr (n, r, false)⟩
      (AssignQ Tryz.prog 1000000 ⟨w0, σ0, φ0, M, li.n, some B, []⟩ li.body (.one (.d (.bool (F87 (n, r, false) x).1))) (sto87 li fr (F87 (n, r, false) x).2))) :
    YieldA Tryz.prog 1000000 [aggS x] (sto87 li fr a) (.one (.d (.bool (F87 a x).1))) (sto87 li fr (F87 a x).2) := by
  obtain ⟨n, r, d⟩ := a
  obtain ⟨rfl, h0, h1⟩ : d = false ∧ 0 ≤ n ∧ n ≤ 64 := hok
  exact yieldA_ok ⟨by omega, by omega⟩ rfl hps (h n r h0 h1)
theorem c87 (s : Scalar) : CallA Tryz.prog 87 [aggS s] [] (.one (.d (.int .i64 (formF s)))) [] := by
  obtain ⟨h0, hform⟩ := form_run (postL s) 0 true (by omega) (by omega)
  obtain ⟨⟨n', r', d'⟩, hR⟩ : ∃ a, (runF F87 (postL s) (0, true, false)).2 = a := ⟨_, rfl⟩
  rw [hR] at hform
  refine enter tabOk Tryz.func87 rfl (by decide +kernel) rfl fun hok w0 σ0 φ0 M => ?_
  clear hok
  repeat' (first | (show OkOps _ _ _ _ _ _; first | refine okops_nil ?_ | refine s_plain tabOk rfl rfl rfl rfl rfl ?_ | (show OkOps _ _ _ (Oper.mk _ (Op.call _) _ _ _ (_) :: _) _ _; first | refine s_callF rfl rfl rfl rfl rfl rfl rfl rfl (c172 12 s 12 rfl (by omega)) rfl ?_ | refine s_callD 16 rfl rfl rfl rfl rfl rfl rfl rfl (c162 _) rfl rfl rfl ?_ | fail) | (show OkOps _ _ _ (Oper.mk _ (Op.box _ _) _ _ _ (_) :: _) _ _; first | refine s_box 0 rfl rfl rfl rfl rfl rfl ?_ | fail) | (show OkOps _ _ _ (Oper.mk _ (Op.alloc _) _ _ _ (_) :: _) _ _; first | refine s_alloc tabOk 1 rfl rfl rfl rfl rfl ?_ | refine s_alloc tabOk 2 rfl rfl rfl rfl rfl ?_ | refine s_alloc tabOk 3 rfl rfl rfl rfl rfl ?_ | fail) | refine s_store envOk rfl rfl rfl ?_ | fail) | (show OkC _ _ _ _ _; first | refine ok_stopR2 ?_ | refine ok_seq ?_ | refine ok_region ?_ | refine ok_skip ?_ | refine ok_ret ?_ | refine ok_cond rfl (fun h => ?_) (fun h => ?_) | fail) | (show thenQ _ _ _ _; first | refine then_n ?_ | refine then_r ?_ | fail) | (show RetQ _ _ _ _ _ _; first | refine ret_leaf (.inl rfl) rfl rfl ?_ | fail) | (show normQ _ _ _; first | refine norm_n ?_ | fail) | fail)
  · simp [formF, h]
  · have hC := fun li fr hf hY => c216 (sto87 li fr) (fam87 li fr hf) F87 ok87 hY s (0, true, false) h0
    rw [hR] at hC
    refine ok_rangeS (f := 216) (caps := [.ptr (rowS s)]) (os := [(1, .box [.d (.int .i64 0)]), (2, .box [.d (.int .i64 0)]), (3, .box [.d (.bool true)])]) (rav := .tup []) [1, 2, 3] 10 rfl rfl rfl rfl (hC _ _ (fun a => ?_) (fun a x hok => ?_)) (by cases d' <;> rfl) (fun h => ?_) (fun h => ?_)
    · rfl
    · refine y87 a x hok rfl fun n r hn0 hn1 w0 σ0 φ0 M B => ?_
      clear hC hform hok a
      by_cases hb : 64 < n + 1
      · have e : F87 (n, r, false) x = (false, (n + 1, r, true)) := by simp [F87, hb]
        have hd : decide (64 < n + 1) = true := by simp [hb]
        rw [e]
        repeat' (first | (show OkOps _ _ _ _ _ _; first | refine okops_nil ?_ | refine s_plain tabOk rfl rfl rfl rfl rfl ?_ | (show OkOps _ _ _ (Oper.mk _ (Op.binOp .add _ _ _ _) _ _ _ (_) :: _) _ _; first | refine s_e envOk rfl rfl rfl (step3_add rfl rfl rfl rfl (wrap64 (by omega) (by omega))) ?_ | fail) | (show OkOps _ _ _ (Oper.mk _ (Op.alloc _) _ _ _ (_) :: _) _ _; first | refine s_alloc tabOk 0 rfl rfl rfl rfl rfl ?_ | fail) | refine s_store envOk rfl rfl rfl ?_ | fail) | (show OkC _ _ _ _ _; first | refine ok_seq ?_ | refine ok_region ?_ | refine ok_block ?_ | refine ok_ret ?_ | refine ok_condKT rfl (by assumption) ?_ | fail) | (show thenQ _ _ _ _; first | refine then_n ?_ | refine then_r ?_ | fail) | (show blockQ _ _ _ _; first | refine block_r ?_ | fail) | (show RoundQ _ _ _ _ _; first | refine round_j rfl rfl ?_ ?_ | fail) | (show AssignQ _ _ _ _ _ _ _ _; first | refine assign_n rfl ?_ | fail) | fail)
        · rfl
        · exact subL_cons rfl (subL_cons rfl (subL_cons rfl (subL_cons rfl subL_nil)))
      · have e : F87 (n, r, false) x = (true, (n + 1, r && partF x, false)) := by simp [F87, hb]
        have hd : decide (64 < n + 1) = false := by simp [hb]
        rw [e]
        cases r
        all_goals
          repeat' (first | (show OkOps _ _ _ _ _ _; first | refine okops_nil ?_ | refine s_plain tabOk rfl rfl rfl rfl rfl ?_ | (show OkOps _ _ _ (Oper.mk _ (_) _ _ _ (some _) :: _) _ _; first | refine s_guard rfl rfl (by first | assumption | rfl) ?_ | refine s_out rfl rfl (by first | assumption | rfl) rfl rfl ?_ | fail) | (show OkOps _ _ _ (Oper.mk _ (Op.binOp .add _ _ _ _) _ _ _ (_) :: _) _ _; first | refine s_e envOk rfl rfl rfl (step3_add rfl rfl rfl rfl (wrap64 (by omega) (by omega))) ?_ | fail) | (show OkOps _ _ _ (Oper.mk _ (Op.pick _ _ _) _ _ _ (_) :: _) _ _; first | refine s_e envOk rfl rfl rfl (step3_pickT rfl rfl (by first | rfl | assumption) rfl) ?_ | refine s_e envOk rfl rfl rfl (step3_pickF rfl rfl (by first | rfl | assumption) rfl) ?_ | fail) | (show OkOps _ _ _ (Oper.mk _ (Op.call _) _ _ _ (_) :: _) _ _; first | refine s_callF rfl rfl rfl rfl rfl rfl rfl rfl (c173 _) rfl ?_ | fail) | (show OkOps _ _ _ (Oper.mk _ (Op.alloc _) _ _ _ (_) :: _) _ _; first | refine s_alloc tabOk 0 rfl rfl rfl rfl rfl ?_ | fail) | refine s_store envOk rfl rfl rfl ?_ | fail) | (show OkC _ _ _ _ _; first | refine ok_seq ?_ | refine ok_region ?_ | refine ok_block ?_ | refine ok_skip ?_ | refine ok_condKF rfl (by assumption) ?_ | fail) | (show thenQ _ _ _ _; first | refine then_n ?_ | fail) | (show blockQ _ _ _ _; first | refine block_n ?_ | fail) | (show RoundQ _ _ _ _ _; first | refine round_n rfl ?_ ?_ | fail) | (show AssignQ _ _ _ _ _ _ _ _; first | refine assign_n rfl ?_ | fail) | fail)
          all_goals first | rfl | refine subL_cons ?_ (subL_cons ?_ (subL_cons ?_ (subL_cons ?_ subL_nil)))
          all_goals first | rfl | trace_state
    · have : d' = false := by cases d' <;> simp [pe87] at h ⊢
      subst this
      rintro ⟨w1, σ1, φ1, M1, n1, rd1, mk1⟩ ⟨hn, hrd, _⟩
      dsimp only at hn hrd
      subst hn hrd
      repeat' (first | (show OkOps _ _ _ _ _ _; first | refine okops_nil ?_ | refine s_plain tabOk rfl rfl rfl rfl rfl ?_ | refine s_store envOk rfl rfl rfl ?_ | fail) | (show OkC _ _ _ _ _; first | refine ok_seq ?_ | refine ok_region ?_ | refine ok_skip ?_ | refine ok_ret ?_ | refine ok_cond rfl (fun h => ?_) (fun h => ?_) | fail) | (show thenQ _ _ _ _; first | refine then_n ?_ | refine then_r ?_ | fail) | (show RetQ _ _ _ _ _ _; first | refine ret_leaf (.inl rfl) rfl rfl ?_ | fail) | (show retQ _ _ _; first | refine retq_n ?_ | fail) | fail)
      all_goals simp_all [formF]
    · have : d' = true := by cases d' <;> simp [pe87] at h ⊢
      subst this
      repeat' (first | (show RetQ _ _ _ _ _ _; first | refine ret_leaf (.inl rfl) rfl rfl ?_ | fail) | fail)
      have hf : formF s = 9 := by rw [formF, hform]; simp_all
      rw [hf]; rfl
end Go.Proofs.YtpejdgkaapnekaaGreat
namespace Go.Abs
open Go
variable {P : Program} {c : Ctx} {σ σ' : Sig} {φ φ' : Pl} {w w' : World}
theorem HInv.ren {S : Sto} (r : Nat → Nat) (h : HInv σ φ S w) (hk : (nodupL (keysL S) && nodupL (mapN r (keysL S)) && fitG r (keysL S) && stoIn S S) = true) :
    ∃ φ', HInv σ φ' (renS r S) w ∧ (∀ j o, look S j = some o → look (renS r S) (r j) = some (renO r o) ∧ φ' (r j) = φ j) ∧ (∀ t e, look (renS r S) t = some e → ∃ j o, t = r j ∧ look S j = some o ∧ e = renO r o) ∧ ∀ t, Pin t → φ' t = φ t := by
  simp only [Bool.and_eq_true] at hk
  obtain ⟨⟨⟨h1, h2⟩, h3⟩, h4⟩ := hk
  classical
  let φ' : Pl := fun t => if h : ∃ i, i ∈ keysL S ∧ r i = t then φ h.choose else φ t
  have hφ : ∀ {i : Nat}, i ∈ keysL S → φ' (r i) = φ i := by
    intro i hi
    have hex : ∃ j, j ∈ keysL S ∧ r j = r i := ⟨i, hi, rfl⟩
    show (if h : ∃ j, j ∈ keysL S ∧ r j = r i then φ h.choose else φ (r i)) = φ i
    rw [dif_pos hex]
    have := hex.choose_spec
    rw [nodup_inj h2 this.1 hi this.2]
  have hR : ∀ j o, look S j = some o → look (renS r S) (r j) = some (renO r o) ∧ φ' (r j) = φ j := fun j o hj => ⟨renS_look h2 hj, hφ (look_key hj)⟩
  refine ⟨φ', ⟨h.sig, fun t e ht => ?_, fun t t' e e' p p' ht ht' hne hp hp' => ?_⟩, hR, fun t e ht => look_renS h1 ht, fun t ht => ?_⟩
  · obtain ⟨i, o, rfl, hi, rfl⟩ := look_renS h1 ht
    exact reObj hR hi (stoIn_look h4 hi) (h.obj _ _ hi)
  · obtain ⟨i, o, rfl, hi, rfl⟩ := look_renS h1 ht
    obtain ⟨i', o', rfl, hi', rfl⟩ := look_renS h1 ht'
    rw [(hR _ _ hi).2] at hp
    rw [(hR _ _ hi').2] at hp'
    exact h.inj _ _ _ _ _ _ hi hi' (fun e => hne (by rw [e])) hp hp'
  · show (if h : ∃ j, j ∈ keysL S ∧ r j = t then φ h.choose else φ t) = _
    split
    · rename_i hex
      have hs := hex.choose_spec
      have := fitG_ok h3 hs.1 (by rw [hs.2]; exact ht)
      rw [hs.2] at this
      rw [← this]
    · rfl
theorem repL_ren {S : Sto} {r : Nat → Nat} (hR : ∀ j o, look S j = some o → look (renS r S) (r j) = some (renO r o) ∧ φ' (r j) = φ j) : ∀ {avs : List AV} {vs : List Value}, avsIn S avs = true → All2 (RepV σ φ S) avs vs → All2 (RepV σ φ' (renS r S)) (renL r avs) vs
  | [], [], _, _ => trivial
  | x :: l, v :: vs, h, ha => by
    simp only [avsIn, Bool.and_eq_true] at h
    exact ⟨reV hR h.1 ha.1, repL_ren hR h.2 ha.2⟩
  | [], _ :: _, _, ha => ha.elim
  | _ :: _, [], _, ha => ha.elim
theorem callA_ren {f : FuncId} {avs avs0 : List AV} {s s0 s' s1 : Sto} {rav : AV} (q q' : Nat → Nat) (hC : CallA P f avs s rav s') (hs : renS q s0 = s) (ha : renL q avs0 = avs) (hs' : renS q' s' = s1) (hai : avsIn s0 avs0 = true) (hfl : flatV rav = true)
    (hk : (nodupL (keysL s0) && nodupL (mapN q (keysL s0)) && fitG q (keysL s0) && stoIn s0 s0) = true) (hk' : (nodupL (keysL s') && nodupL (mapN q' (keysL s')) && fitG q' (keysL s') && stoIn s' s') = true) : CallA P f avs0 s0 rav s1 := by
  subst hs; subst ha; subst hs'
  refine ⟨hC.fn, fun w σ φ vs hinv hargs => ?_⟩
  obtain ⟨φ1, h1, hR, hL, hp⟩ := hinv.ren q hk
  refine (hC.run w σ φ1 vs h1 (repL_ren hR hai hargs)).mono ?_
  rintro e w' ⟨v, σ', φ', rfl, hret⟩
  obtain ⟨φ2, h2, hR2, hL2, hp2⟩ := hret.inv.ren q' hk'
  have hM : ∀ b, MOf φ1 (renS q s0) b → MOf φ s0 b := by
    rintro b ⟨t, e, p, h3, h4, h5⟩
    obtain ⟨j, o, rfl, h6, rfl⟩ := hL t e h3
    rw [(hR _ _ h6).2] at h4
    exact ⟨j, o, p, h6, h4, h5⟩
  refine ⟨v, σ', φ2, rfl, hret.le, fun b hb => ?_, h2, flatV_rep hfl hret.rep, fun i e p hi hpi => ?_, fun t ht => (hp2 t ht).trans ((hret.pin t ht).trans (hp t ht)), ⟨hret.kept.os, hret.kept.tape, hret.kept.output, hret.kept.size, hret.kept.drawn, fun b hb hm => hret.kept.block b hb fun h => hm (hM b h)⟩⟩
  · rcases hret.fresh b hb with h | h | h
    · exact .inl h
    · exact .inr (.inl h)
    · exact .inr (.inr (hM b h))
  · obtain ⟨j, o, rfl, h6, rfl⟩ := hL2 i e hi
    rw [(hR2 _ _ h6).2] at hpi
    rcases hret.mine _ _ _ h6 hpi with h | h
    · exact .inl h
    · exact .inr (hM _ h)
variable {V : Env} {T : Tab} {w0 : World} {σ0 : Sig} {φ0 : Pl} {M : Nat → Prop} {n : Nat} {rd : Option Nat} {mk : List Deferred} {ops : Array Oper} {o : Oper} {rest : List Oper} {fr : List (Nat × AV)} {sto : Sto} {K : St → Prop} {st st0 : St} {acc : List Tr}
theorem imp_adoptB (i id : Nat) {k b : Nat} (hl : look sto i = some (.box [.d .nil])) (hlt : (Nat.blt id 1000000 && (!frMen id fr && !stoMen id sto && !hasK sto id)) = true) : Imp c ⟨fr, sto⟩ ⟨fr, (id, .row k b []) :: setS i (.box [.own id 0]) sto⟩ := by
  simp only [Bool.and_eq_true, Bool.not_eq_true', Nat.blt_eq] at hlt
  obtain ⟨h1, ⟨h2, h3⟩, h4⟩ := hlt
  intro a w σ φ hr
  have hn := hr.nilRow (id := id) (k := k) (b := b) (by simpa using h1) h2 h3
  have hne : id ≠ i := by rintro rfl; simp [hasK, hl] at h4
  have hE : Ext (fun _ => False) (updP φ id none) (updP φ id none) ((id, .row k b []) :: sto) ((id, .row k b []) :: setS i (.box [.own id 0]) sto) := by
    intro j _
    cases hj : look ((id, AObj.row k b []) :: setS i (.box [.own id 0]) sto) j with
    | none => exact .inl rfl
    | some e =>
      refine .inr ?_
      rcases look_cons hj with ⟨rfl, rfl⟩ | ⟨hne2, hj2⟩
      · exact ⟨_, look_self, rfl, _, rfl, compat.refl _⟩
      · rw [look_setS] at hj2
        rcases look_cons hj2 with ⟨rfl, rfl⟩ | ⟨_, hj3⟩
        · exact ⟨.box [.d .nil], by rw [look_ne hne2]; exact hl, rfl, .box [.own id 0], rfl, trivial⟩
        · exact ⟨_, by rw [look_ne hne2]; exact hj3, rfl, _, rfl, compat.refl _⟩
  have hold : ∀ {j e}, look ((id, AObj.row k b []) :: setS i (.box [.own id 0]) sto) j = some e → (j = i ∧ e = .box [.own id 0]) ∨ look ((id, AObj.row k b []) :: sto) j = some e := by
    intro j e hj
    rcases look_cons hj with ⟨rfl, rfl⟩ | ⟨hne2, hj2⟩
    · exact .inr look_self
    · rw [look_setS] at hj2
      rcases look_cons hj2 with ⟨rfl, rfl⟩ | ⟨_, hj3⟩
      · exact .inl ⟨rfl, rfl⟩
      · exact .inr (by rw [look_ne hne2]; exact hj3)
  have hi : look ((id, AObj.row k b []) :: sto) i = some (.box [.d .nil]) := by rw [look_ne (fun e => hne e.symm)]; exact hl
  refine ⟨σ, _, hn.le, hn.fresh, ⟨hn.inv.sig, fun j e hj => ?_, fun j j' e e' p p' hj hj' hne2 hp hp' => ?_⟩, fun j e p hj hp => ?_, fun s v hv => ?_, hn.defers, hn.size, hn.fra, hn.pin⟩
  · rcases hold hj with ⟨rfl, rfl⟩ | hj2
    · obtain ⟨B, cc, vs, t, h5, h6, h7, h8⟩ := hn.inv.obj _ _ hi
      refine ⟨B, cc, vs, t, h5, h6, ?_, h8⟩
      cases vs with
      | nil => exact h7.elim
      | cons v vs =>
        obtain ⟨h9, h10⟩ := h7
        cases vs with
        | cons _ _ => exact h10.elim
        | nil =>
          replace h9 := RepC.d_inv h9
          cases h9
          exact ⟨.ownNil look_self updP_self, trivial⟩
    · exact (hn.inv.obj _ _ hj2).ext (X := fun _ => False) (Sig.le_refl _) hE (fun j hj => hj.elim) rfl fun _ _ _ => ⟨rfl, rfl⟩
  · have h5 : ∀ {j e}, look ((id, AObj.row k b []) :: setS i (.box [.own id 0]) sto) j = some e → ∃ e0, look ((id, AObj.row k b []) :: sto) j = some e0 := by
      intro j e hj
      rcases hold hj with ⟨rfl, rfl⟩ | hj2
      · exact ⟨_, hi⟩
      · exact ⟨_, hj2⟩
    obtain ⟨_, h6⟩ := h5 hj
    obtain ⟨_, h7⟩ := h5 hj'
    exact hn.inv.inj _ _ _ _ _ _ h6 h7 hne2 hp hp'
  · rcases hold hj with ⟨rfl, rfl⟩ | hj2
    · exact hn.mine _ _ _ hi hp
    · exact hn.mine _ _ _ hj2 hp
  · obtain ⟨u, hu, hru⟩ := hn.slot s v hv
    exact ⟨u, hu, hru.ext (Sig.le_refl _) hE fun j hj => hj.elim⟩
theorem s_append (hT : TabOk P T) {d : Nat} {t t2 e e2 k b k2 b2 k' b' id m : Nat} {z z2 : List D} {x y : Operand} {v : AV} {xs ys zs : List (List D)}
    (ho : o.op = .call { callee := .builtin .append, args := #[x, y], argTypes := #[t, t2] }) (hg : o.guard = none) (hdst : o.dst = some d) (hd : Nat.blt d n = true) (ht : sliceTy T t = some (e, k, b, z)) (ht2 : sliceTy T t2 = some (e2, k2, b2, z2))
    (hlt : (Nat.blt id 1000000 || Nat.ble 2000000 id) = true) (hx : ev ⟨fr, sto⟩ x = some (.one (.own id m))) (hl : look sto id = some (.row k' b' xs)) (hkb : (Nat.beq k k' && Nat.beq b b') = true) (hy : ev ⟨fr, sto⟩ y = some v) (hs : srcOf ⟨fr, sto⟩ k v = some ys) (hzs : zs = xs.take m ++ ys)
    (hm : m ≤ 100000000) (hys : ys.length ≤ 100000) (hb : b ≤ 100)
    (h : OkOps P ⟨w0, σ0, φ0, M, n, rd, mk⟩ ops rest ⟨(d, .one (.own id (m + ys.length))) :: purFr id fr, setS id (.row k b zs) (purSto id sto)⟩ K) : OkOps P ⟨w0, σ0, φ0, M, n, rd, mk⟩ ops (o :: rest) ⟨fr, sto⟩ K := by
  have h47 : (m + ys.length) * b ≤ 2 ^ 47 := Nat.le_trans (Nat.mul_le_mul (show m + ys.length ≤ 200000000 by omega) hb) (by omega)
  exact okops_append hT ho hg (by rw [hdst]; exact hd) ht ht2 hlt hx hl hkb hy hs hzs (by omega) h47 (by rw [hdst]; exact h)
theorem okR_imp {bl : Nat} {g : Operand} {ps : Array Nat} {assign body code : Code} {Q : Exit → St → Prop} {st' : St} (hi : Imp c st st') (h : OkR P c bl g ps assign body code st' Q) : OkR P c bl g ps assign body code st Q := fun a w σ φ hr => by
  obtain ⟨σ', φ', hr'⟩ := hi a w σ φ hr
  exact h a w σ' φ' hr'
theorem imp_subS {s' : Sto} (h : SubL sto s') : Imp c ⟨fr, sto⟩ ⟨fr, s'⟩ := fun a w σ φ hr => ⟨σ, φ, hr.dropTo fun i e hi => h.look hi⟩
end Go.Abs
namespace Go.Proofs.YtpejdgkaapnekaaGreat
open Go Go.Abs
attribute [local irreducible] OkOps OkC DRun thenQ blockQ RetQ OkR normQ RoundQ AssignQ retQ
set_option maxRecDepth 10000
end Go.Proofs.YtpejdgkaapnekaaGreat
namespace Go.Proofs.YtpejdgkaapnekaaGreat
open Go Go.Abs
attribute [local irreducible] OkOps OkC DRun thenQ blockQ RetQ
set_option maxRecDepth 10000
end Go.Proofs.YtpejdgkaapnekaaGreat
namespace Go.Proofs.YtpejdgkaapnekaaGreat
open Go Go.Abs
attribute [local irreducible] OkOps OkC DRun thenQ blockQ RetQ
set_option maxRecDepth 10000
end Go.Proofs.YtpejdgkaapnekaaGreat
namespace Go.Proofs.YtpejdgkaapnekaaGreat
open Go Go.Abs
attribute [local irreducible] OkOps OkC DRun thenQ blockQ RetQ
set_option maxRecDepth 10000
end Go.Proofs.YtpejdgkaapnekaaGreat
