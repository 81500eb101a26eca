import Derived.Shelf.SlSortCmp.WholeK
import Derived.Shelf.SlSortCmp.NoneTotal
import Derived.Shelf.Slices.In.SortNone
import Derived.Shelf.Slices.In.CompactS
import Derived.Test.YtpejdgkaapnekaaGreatP8
import Derived.Test.YtpejdgkaapnekaaGreatP6
import Derived.Test.YtpejdgkaapnekaaGreatKZ
import Derived.Test.YtpejdgkaapnekaaGreatTab
import Derived.Test.YtpejdgkaapnekaaGreatP0
set_option linter.unusedVariables false
set_option linter.unusedSimpArgs false
namespace Go.Proofs.YtpejdgkaapnekaaGreat
open Go Go.Abs
attribute [local irreducible] OkOps OkC DRun thenQ blockQ RetQ
set_option maxRecDepth 10000
theorem form_ok {s : Scalar} (h : formF s = 0) : partsF s = true ∧ (postL s).length ≤ 64 := by
  have h3 := formGo_eq (postL s) 0 true (by omega)
  unfold formF at h
  split at h
  · omega
  · by_cases hc : 64 < ((postL s).length : Int)
    · rw [h3.1 (by omega)] at h; omega
    · rw [h3.2 (by omega), Bool.true_and, ← parts_all] at h
      refine ⟨?_, by omega⟩
      cases hp : partsF s with
      | true => rfl
      | false => rw [hp] at h; simp at h
theorem c19 : CallA Tryz.prog 19 [] [] (.one (.d (.bool true))) [] := k445
end Go.Proofs.YtpejdgkaapnekaaGreat
namespace Go.Abs
open Go
variable {P : Program} {c : Ctx} {T : Tab}
variable {w0 : World} {σ0 : Sig} {φ0 : Pl} {fr : List (Nat × AV)} {sto : Sto}
theorem imp_adoptJ (i j0 id : Nat) {k b : Nat} {cs : List AC} (hl : look sto i = some (.box cs)) (hc : cs[j0]? = some (.d .nil)) (hlt : (Nat.blt id 1000000 && (!frMen id fr && !stoMen id sto && !hasK sto id)) = true) : Imp c ⟨fr, sto⟩ ⟨fr, (id, .row k b []) :: setS i (.box (cs.set j0 (.own id 0))) sto⟩ := by
  simp only [Bool.and_eq_true, Bool.not_eq_true', Nat.blt_eq] at hlt
  obtain ⟨h1, ⟨h2, h3⟩, h4⟩ := hlt
  intro a w σ φ hr
  have hn := hr.nilRow (id := id) (k := k) (b := b) (by simpa using h1) h2 h3
  have hne : id ≠ i := by rintro rfl; simp [hasK, hl] at h4
  have hE : Ext (fun _ => False) (updP φ id none) (updP φ id none) ((id, .row k b []) :: sto) ((id, .row k b []) :: setS i (.box (cs.set j0 (.own id 0))) sto) := by
    intro j _
    cases hj : look ((id, AObj.row k b []) :: setS i (.box (cs.set j0 (.own id 0))) sto) j with
    | none => exact .inl rfl
    | some e =>
      refine .inr ?_
      rcases look_cons hj with ⟨rfl, rfl⟩ | ⟨hne2, hj2⟩
      · exact ⟨_, look_self, rfl, _, rfl, compat.refl _⟩
      · rw [look_setS] at hj2
        rcases look_cons hj2 with ⟨rfl, rfl⟩ | ⟨_, hj3⟩
        · exact ⟨.box cs, by rw [look_ne hne2]; exact hl, rfl, .box (cs.set j0 (.own id 0)), rfl, trivial⟩
        · exact ⟨_, by rw [look_ne hne2]; exact hj3, rfl, _, rfl, compat.refl _⟩
  have hold : ∀ {j e}, look ((id, AObj.row k b []) :: setS i (.box (cs.set j0 (.own id 0))) sto) j = some e → (j = i ∧ e = .box (cs.set j0 (.own id 0))) ∨ look ((id, AObj.row k b []) :: sto) j = some e := by
    intro j e hj
    rcases look_cons hj with ⟨rfl, rfl⟩ | ⟨hne2, hj2⟩
    · exact .inr look_self
    · rw [look_setS] at hj2
      rcases look_cons hj2 with ⟨rfl, rfl⟩ | ⟨_, hj3⟩
      · exact .inl ⟨rfl, rfl⟩
      · exact .inr (by rw [look_ne hne2]; exact hj3)
  have hi : look ((id, AObj.row k b []) :: sto) i = some (.box cs) := by rw [look_ne (fun e => hne e.symm)]; exact hl
  refine ⟨σ, _, hn.le, hn.fresh, ⟨hn.inv.sig, fun j e hj => ?_, fun j j' e e' p p' hj hj' hne2 hp hp' => ?_⟩, fun j e p hj hp => ?_, fun s v hv => ?_, hn.defers, hn.size, hn.fra, hn.pin⟩
  · rcases hold hj with ⟨rfl, rfl⟩ | hj2
    · obtain ⟨B, cc, vs, t, h5, h6, h7, h8⟩ := hn.inv.obj _ _ hi
      refine ⟨B, cc, vs, t, h5, h6, All2.of_get (by rw [List.length_set]; exact h7.length) fun m x u hx hu => ?_, h8⟩
      by_cases hm : j0 = m
      · subst hm
        have hlt : j0 < cs.length := (List.getElem?_eq_some_iff.1 hc).1
        rw [List.getElem?_set_self hlt] at hx
        cases hx
        obtain ⟨u', hu', hr9⟩ := h7.get hc
        rw [hu] at hu'; cases hu'
        replace hr9 := RepC.d_inv hr9
        cases hr9
        exact .ownNil look_self updP_self
      · rw [List.getElem?_set_ne hm] at hx
        obtain ⟨u', hu', hr9⟩ := h7.get hx
        rw [hu] at hu'; cases hu'
        exact hr9.ext (Sig.le_refl _) hE fun j hj => hj.elim
    · exact (hn.inv.obj _ _ hj2).ext (X := fun _ => False) (Sig.le_refl _) hE (fun j hj => hj.elim) rfl fun _ _ _ => ⟨rfl, rfl⟩
  · have h5 : ∀ {j e}, look ((id, AObj.row k b []) :: setS i (.box (cs.set j0 (.own id 0))) sto) j = some e → ∃ e0, look ((id, AObj.row k b []) :: sto) j = some e0 := by
      intro j e hj
      rcases hold hj with ⟨rfl, rfl⟩ | hj2
      · exact ⟨_, hi⟩
      · exact ⟨_, hj2⟩
    obtain ⟨_, h6⟩ := h5 hj
    obtain ⟨_, h7⟩ := h5 hj'
    exact hn.inv.inj _ _ _ _ _ _ h6 h7 hne2 hp hp'
  · rcases hold hj with ⟨rfl, rfl⟩ | hj2
    · exact hn.mine _ _ _ hi hp
    · exact hn.mine _ _ _ hj2 hp
  · obtain ⟨u, hu, hru⟩ := hn.slot s v hv
    exact ⟨u, hu, hru.ext (Sig.le_refl _) hE fun j hj => hj.elim⟩
theorem step3_append {V : Env} {st : St} {o : Oper} {id i n k b k' b' : Nat} {t t2 : TypeId} {x y : Operand} {v : AV} {xs ys : List (List D)} {e : TypeId} {z : List D} {q : TypeId × Nat × Nat × List D}
    (ho : o.op = .call { callee := .builtin .append, args := ⟨[x, y]⟩, argTypes := ⟨[t, t2]⟩ }) (ht : sliceTy V.T t = some (e, k, b, z)) (ht2 : sliceTy V.T t2 = some q) (hx : ev st x = some (.one (.own i n))) (hl : look st.sto i = some (.row k' b' xs))
    (hkb : (Nat.beq k k' && Nat.beq b b') = true) (hy : ev st y = some v) (hs : srcOf st k v = some ys) (h1 : n + ys.length ≤ 1000000000) (h2 : (n + ys.length) * b ≤ 100000000000) :
    step3 V st o id = some ⟨.one (.own id (n + ys.length)), [(id, some (.row k b (xs.take n ++ ys))), (i, none)], [id]⟩ := by
  obtain ⟨q1, q2, q3, q4⟩ := q
  have e1 : Nat.ble (n + ys.length) 1000000000 = true := by simpa using h1
  have e2 : Nat.ble ((n + ys.length) * b) 100000000000 = true := by simpa using h2
  simp only [step3, stepE, valF, ho, otherE, appV, hx, hy, ht, ht2, hl, hs, hkb, e1, e2, cond_true, Bool.and_self, builtinF, List.map_cons, List.map_nil]
end Go.Abs
namespace Go.Proofs.YtpejdgkaapnekaaGreat
open Go Go.Abs
attribute [local irreducible] OkOps OkC DRun thenQ blockQ RetQ
set_option maxRecDepth 10000
end Go.Proofs.YtpejdgkaapnekaaGreat
namespace Go.Abs
open Go Go.Shelf Go.RowKit Go.Lib Go.Sort Go.Proofs
variable {P : Program} {σ : Sig} {φ : Pl} {w : World}
theorem all2_d {σ : Sig} {φ : Pl} {sto : Sto} : ∀ {ds : List D} {vs : List Value}, All2 (Rep σ) ds vs → All2 (RepC σ φ sto) (ds.map AC.d) vs
  | [], [], _ => trivial
  | _ :: _, _ :: _, h => ⟨.d h.1, all2_d h.2⟩
  | [], _ :: _, h => h.elim
  | _ :: _, [], h => h.elim
section
variable {C : Type}
abbrev El (σ : Sig) (k : Nat) (encC : C → List D) := { p : C × List Value // p.2.length = k ∧ All2 (Rep σ) (encC p.1) p.2 }
end
end Go.Abs
namespace Go.Proofs.YtpejdgkaapnekaaGreat
open Go Go.Proofs Go.Shelf
end Go.Proofs.YtpejdgkaapnekaaGreat
namespace Go.Proofs.YtpejdgkaapnekaaGreat
open Go Go.Abs
attribute [local irreducible] OkOps OkC DRun thenQ blockQ RetQ
set_option maxRecDepth 10000
end Go.Proofs.YtpejdgkaapnekaaGreat
namespace Go.Abs
open Go
variable {P : Program} {c : Ctx} {fr : List (Nat × AV)} {sto : Sto}
def nmA (b : Bool × Bool) : Nat := bif b.1 then 11 else 10
def qN (i : Nat) : Nat := bif Nat.beq i 11 then 10 else bif Nat.beq i 13 then 12 else i
theorem subL_app {α : Type} {f a b : List (Nat × α)} (h1 : SubL f a) (h2 : SubL f b) : SubL f (a ++ b) := by
  induction a with
  | nil => exact h2
  | cons p r ih => exact ⟨h1.1, ih h1.2⟩
theorem imp_sub {f f' : List (Nat × AV)} {s s' : Sto} (hf : SubL f f') (hs : SubL s s') : Imp c ⟨f, s⟩ ⟨f', s'⟩ := Imp.trans (imp_subL hf) (imp_subS hs)
theorem s_loopN {α : Type} {body : Code} {Q : Exit → St → Prop} (rg : Nat) (hrg : firstReg body = rg) {fr1 : List (Nat × AV)} {sto1 : Sto} (ha : Imp c ⟨fr, sto⟩ ⟨fr1, sto1⟩) (kept : List (Nat × AV)) (hk : SubL fr1 kept) (L : Bool × Bool → α → List (Nat × AV)) (S : Bool × Bool → α → Sto) (Inv : α → Prop) (μ : α → Nat) (x0 : α)
    (hL : SubL fr1 (L (false, false) x0)) (hS : SubL sto1 (S (false, false) x0)) (hq : ∀ b y, Imp c ⟨L b y ++ kept, S b y⟩ ⟨L (false, false) y ++ kept, S (false, false) y⟩) (h0 : Inv x0)
    (hround : ∀ x, Inv x → OkC P c body ⟨L (false, false) x ++ kept, S (false, false) x⟩ (thenQ (fun st' => ∃ y b, Inv y ∧ μ y < μ x ∧ SubL st'.sto (S b y) ∧ SubL st'.fr (L b y) ∧ SubL st'.fr kept) Q)) : OkC P c (.loop body) ⟨fr, sto⟩ Q := by
  refine okc_imp (st' := ⟨L (false, false) x0 ++ kept, S (false, false) x0⟩) (Imp.trans ha (imp_sub (subL_app hL hk) hS)) ?_
  refine ok_loop (fun n st => ∃ x, Inv x ∧ n = μ x ∧ st = ⟨L (false, false) x ++ kept, S (false, false) x⟩) (μ x0) ⟨x0, h0, rfl, rfl⟩ ?_
  rintro n st ⟨x, hx, rfl, rfl⟩
  refine ok_mono (hround x hx) fun e st h => ?_
  cases e with
  | normal =>
    obtain ⟨y, b, hy, hlt, hs, h1, h2⟩ := h
    obtain ⟨f, s⟩ := st
    simp only at hs h1 h2
    exact ⟨μ y, _, hlt, ⟨y, hy, rfl, rfl⟩, Imp.trans (imp_sub (subL_app h1 h2) hs) (hq b y)⟩
  | _ => exact h
section
variable {w0 : World} {σ0 : Sig} {φ0 : Pl} {M : Nat → Prop} {n : Nat} {rd : Option Nat} {mk : List Deferred} {ops : Array Oper} {o : Oper} {rest : List Oper} {K : St → Prop} {st0 : St} {acc : List Tr}
end
theorem step3_appendB {V : Env} {st : St} {o : Oper} {id i n k b k' b' : Nat} {t t2 : TypeId} {x y : Operand} {v : AV} {xs ys : List (List D)} {e : TypeId} {z : List D} {q : TypeId × Nat × Nat × List D}
    (ho : o.op = .call { callee := .builtin .append, args := ⟨[x, y]⟩, argTypes := ⟨[t, t2]⟩ }) (ht : sliceTy V.T t = some (e, k, b, z)) (ht2 : sliceTy V.T t2 = some q) (hx : ev st x = some (.one (.own i n))) (hl : look st.sto i = some (.row k' b' xs))
    (hkb : (Nat.beq k k' && Nat.beq b b') = true) (hy : ev st y = some v) (hs : srcOf st k v = some ys) (hn : n ≤ 100000000) (hys : ys.length ≤ 10000000) (hb : b ≤ 100) :
    step3 V st o id = some ⟨.one (.own id (n + ys.length)), [(id, some (.row k b (xs.take n ++ ys))), (i, none)], [id]⟩ :=
  step3_append ho ht ht2 hx hl hkb hy hs (by omega) (Nat.le_trans (Nat.mul_le_mul (show n + ys.length ≤ 110000000 by omega) hb) (by omega))
end Go.Abs
namespace Go.Proofs.YtpejdgkaapnekaaGreat
open Go Go.Abs
attribute [local irreducible] OkOps OkC DRun thenQ blockQ RetQ
set_option maxRecDepth 10000
end Go.Proofs.YtpejdgkaapnekaaGreat
namespace Go.Proofs.YtpejdgkaapnekaaGreat
open Go Go.Abs
attribute [local irreducible] OkOps OkC DRun thenQ blockQ RetQ
set_option maxRecDepth 10000
end Go.Proofs.YtpejdgkaapnekaaGreat
namespace Go.Proofs.YtpejdgkaapnekaaGreat
open Go Go.Abs
attribute [local irreducible] OkOps OkC DRun thenQ blockQ RetQ
set_option maxRecDepth 10000
def namedF (s : Scalar) : Bool := s.op == 2 || s.op == 3
def sameV (v w : Val) : Bool := v.kind == w.kind && (v.num == w.num && (v.den == w.den && v.str == w.str))
mutual
def sameS : Scalar → Scalar → Bool
  | .mk o n v a, .mk o2 n2 v2 a2 => (o == o2) && ((n == n2) && (sameV v v2 && sameSs a a2))
def sameSs : List Scalar → List Scalar → Bool
  | [], [] => true
  | x :: r, y :: t => sameS x y && sameSs r t
  | _, _ => false
end
theorem sameS_eq : ∀ {s t : Scalar}, sameS s t = ((s.op == t.op) && ((s.name == t.name) && (sameV s.val t.val && sameSs s.args t.args)))
  | .mk o n v a, .mk o2 n2 v2 a2 => by simp [sameS, Scalar.op, Scalar.name, Scalar.val, Scalar.args]
theorem sameSs_len : ∀ {l m : List Scalar}, l.length ≠ m.length → sameSs l m = false
  | [], [], h => absurd rfl h
  | [], y :: m, _ => by simp [sameSs]
  | x :: l, [], _ => by simp [sameSs]
  | x :: l, y :: m, h => by simp only [sameSs]; rw [sameSs_len (fun e => h (by simp [e])), Bool.and_false]
theorem nat_bne {a b : Nat} (h : ((a : Int) != (b : Int)) = false) : a = b := by simp at h; omega
theorem sameSs_step {l m : List Scalar} {k : Nat} (hk : k < l.length) (h : l.length = m.length) : sameSs (l.drop k) (m.drop k) = (sameS (at_ l k) (at_ m k) && sameSs (l.drop (k + 1)) (m.drop (k + 1))) := by
  have hm : k < m.length := h ▸ hk
  rw [at_drop hk]
  conv => lhs; arg 2; rw [at_drop hm]
  simp only [sameSs]
theorem sameSs_end {l m : List Scalar} {k : Nat} (hk : l.length ≤ k) (h : l.length = m.length) : sameSs (l.drop k) (m.drop k) = true := by
  rw [List.drop_eq_nil_of_le hk, List.drop_eq_nil_of_le (h ▸ hk), sameSs]
theorem sameV_eq {v w : Val} : eqDs [.int .i64 v.kind, .int .i64 v.num, .int .i64 v.den, .str v.str] [.int .i64 w.kind, .int .i64 w.num, .int .i64 w.den, .str w.str] = sameV v w := by
  simp [eqDs, eqD, sameV]
theorem c163 (s : Scalar) : CallA Tryz.prog 163 [aggS s] [] (.one (.d (.bool (namedF s)))) [] := by
  refine enter tabOk Tryz.func163 rfl (by decide +kernel) rfl fun hok w0 σ0 φ0 M => ?_
  clear hok
  repeat' (first | (show OkOps _ _ _ _ _ _; first | refine okops_nil ?_ | refine s_plain tabOk rfl rfl rfl rfl rfl ?_ | (show OkOps _ _ _ (Oper.mk _ (_) _ _ _ (some _) :: _) _ _; first | refine s_guard rfl rfl (by first | assumption | rfl) ?_ | refine s_out rfl rfl (by first | assumption | rfl) rfl rfl ?_ | refine s_split rfl rfl rfl rfl (fun h => ?_) (fun h => ?_) | fail) | (show OkOps _ _ _ (Oper.mk _ (Op.pick _ _ _) _ _ _ (_) :: _) _ _; first | refine s_e envOk rfl rfl rfl (step3_pickT rfl rfl (by first | rfl | assumption) rfl) ?_ | refine s_e envOk rfl rfl rfl (step3_pickF rfl rfl (by first | rfl | assumption) rfl) ?_ | fail) | (show OkOps _ _ _ (Oper.mk _ (Op.box _ _) _ _ _ (_) :: _) _ _; first | refine s_box 0 rfl rfl rfl rfl rfl rfl ?_ | fail) | fail) | (show OkC _ _ _ _ _; first | refine ok_seq ?_ | refine ok_region ?_ | refine ok_ret ?_ | fail) | (show thenQ _ _ _ _; first | refine then_n ?_ | fail) | (show RetQ _ _ _ _ _ _; first | refine ret_leaf (.inl rfl) rfl rfl ?_ | fail) | fail)
  all_goals (try (((simp_all [namedF, at_drop, List.drop_eq_nil_of_le]) <;> first | omega | (rw [Bool.eq_iff_iff]; simp; omega) | grind); done))
theorem c169 (s : Scalar) : CallA Tryz.prog 169 [aggS s] [] (.one (.d (.bool (decide (depthF 12 s ≤ 12) && decide (countF s 64 ≤ 64))))) [] := by
  refine enter tabOk Tryz.func169 rfl (by decide +kernel) rfl fun hok w0 σ0 φ0 M => ?_
  clear hok
  repeat' (first | (show OkOps _ _ _ _ _ _; first | refine okops_nil ?_ | refine s_plain tabOk rfl rfl rfl rfl rfl ?_ | (show OkOps _ _ _ (Oper.mk _ (_) _ _ _ (some _) :: _) _ _; first | refine s_guard rfl rfl (by first | assumption | rfl) ?_ | refine s_out rfl rfl (by first | assumption | rfl) rfl rfl ?_ | refine s_split rfl rfl rfl rfl (fun h => ?_) (fun h => ?_) | fail) | (show OkOps _ _ _ (Oper.mk _ (Op.pick _ _ _) _ _ _ (_) :: _) _ _; first | refine s_e envOk rfl rfl rfl (step3_pickT rfl rfl (by first | rfl | assumption) rfl) ?_ | refine s_e envOk rfl rfl rfl (step3_pickF rfl rfl (by first | rfl | assumption) rfl) ?_ | fail) | (show OkOps _ _ _ (Oper.mk _ (Op.call _) _ _ _ (_) :: _) _ _; first | refine s_callF rfl rfl rfl rfl rfl rfl rfl rfl (c90 12 s 12 rfl (by omega)) rfl ?_ | refine s_callF rfl rfl rfl rfl rfl rfl rfl rfl (c91 s 64 (by omega) (by omega)) rfl ?_ | fail) | (show OkOps _ _ _ (Oper.mk _ (Op.box _ _) _ _ _ (_) :: _) _ _; first | refine s_box 0 rfl rfl rfl rfl rfl rfl ?_ | fail) | fail) | (show OkC _ _ _ _ _; first | refine ok_seq ?_ | refine ok_region ?_ | refine ok_ret ?_ | fail) | (show thenQ _ _ _ _; first | refine then_n ?_ | fail) | (show RetQ _ _ _ _ _ _; first | refine ret_leaf (.inl rfl) rfl rfl ?_ | fail) | fail)
  all_goals (try (((simp_all [at_drop, List.drop_eq_nil_of_le]) <;> first | omega | (rw [Bool.eq_iff_iff]; simp; omega) | grind); done))
theorem c77 (s : Scalar) : CallA Tryz.prog 77 [aggS s] [] (.one (.d (.bool (formF s == 0)))) [] := by
  have e : (formF s == 0) = ((decide (depthF 12 s ≤ 12) && decide (countF s 64 ≤ 64)) && partsF s) := by
    rw [formF_ref]
    by_cases h1 : 12 < depthF 12 s
    · have : ¬ depthF 12 s ≤ 12 := by omega
      simp [h1, this]
    · by_cases h2 : 64 < countF s 64
      · have : ¬ countF s 64 ≤ 64 := by omega
        simp [h1, h2, this]
      · have h3 : depthF 12 s ≤ 12 := by omega
        have h4 : countF s 64 ≤ 64 := by omega
        cases hp : partsF s <;> simp [h1, h2, h3, h4]
  rw [e]
  refine enter tabOk Tryz.func77 rfl (by decide +kernel) rfl fun hok w0 σ0 φ0 M => ?_
  clear hok
  repeat' (first | (show OkOps _ _ _ _ _ _; first | refine okops_nil ?_ | refine s_plain tabOk rfl rfl rfl rfl rfl ?_ | (show OkOps _ _ _ (Oper.mk _ (_) _ _ _ (some _) :: _) _ _; first | refine s_guard rfl rfl (by first | assumption | rfl) ?_ | refine s_out rfl rfl (by first | assumption | rfl) rfl rfl ?_ | refine s_split rfl rfl rfl rfl (fun h => ?_) (fun h => ?_) | fail) | (show OkOps _ _ _ (Oper.mk _ (Op.pick _ _ _) _ _ _ (_) :: _) _ _; first | refine s_e envOk rfl rfl rfl (step3_pickT rfl rfl (by first | rfl | assumption) rfl) ?_ | refine s_e envOk rfl rfl rfl (step3_pickF rfl rfl (by first | rfl | assumption) rfl) ?_ | fail) | (show OkOps _ _ _ (Oper.mk _ (Op.call _) _ _ _ (_) :: _) _ _; first | refine s_callF rfl rfl rfl rfl rfl rfl rfl rfl (c169 _) rfl ?_ | refine s_callF rfl rfl rfl rfl rfl rfl rfl rfl (c92 _) rfl ?_ | fail) | (show OkOps _ _ _ (Oper.mk _ (Op.box _ _) _ _ _ (_) :: _) _ _; first | refine s_box 0 rfl rfl rfl rfl rfl rfl ?_ | fail) | fail) | (show OkC _ _ _ _ _; first | refine ok_seq ?_ | refine ok_region ?_ | refine ok_ret ?_ | fail) | (show thenQ _ _ _ _; first | refine then_n ?_ | fail) | (show RetQ _ _ _ _ _ _; first | refine ret_leaf (.inl rfl) rfl rfl ?_ | fail) | fail)
  all_goals (try (((simp_all [at_drop, List.drop_eq_nil_of_le]) <;> first | omega | (rw [Bool.eq_iff_iff]; simp; omega) | grind); done))
theorem c170 (a : Scalar) : ∀ b : Scalar, CallA Tryz.prog 170 [aggS a, aggS b] [] (.one (.d (.bool (sameS a b)))) [] := by
  induction a using Scalar.ind with
  | h a ih =>
    intro b
    refine enter tabOk Tryz.func170 rfl (by decide +kernel) rfl fun hok w0 σ0 φ0 M => ?_
    have h1 := (OkD.sl (hok.1 (.d (encScalars a.args)) (by simp))).1; clear hok; simp only [List.length_map] at h1
    rw [sameS_eq]
    repeat' (first | (show OkOps _ _ _ _ _ _; first | refine okops_nil ?_ | refine s_plain tabOk rfl rfl rfl rfl rfl ?_ | (show OkOps _ _ _ (Oper.mk _ (_) _ _ _ (some _) :: _) _ _; first | refine s_guard rfl rfl (by first | assumption | rfl) ?_ | refine s_out rfl rfl (by first | assumption | rfl) rfl rfl ?_ | refine s_split rfl rfl rfl rfl (fun h => ?_) (fun h => ?_) | fail) | (show OkOps _ _ _ (Oper.mk _ (Op.binOp .add _ _ _ _) _ _ _ (_) :: _) _ _; first | refine s_e envOk rfl rfl rfl (step3_add rfl rfl rfl rfl (wrap64 (by omega) (by omega))) ?_ | fail) | (show OkOps _ _ _ (Oper.mk _ (Op.pick _ _ _) _ _ _ (_) :: _) _ _; first | refine s_e envOk rfl rfl rfl (step3_pickT rfl rfl (by first | rfl | assumption) rfl) ?_ | refine s_e envOk rfl rfl rfl (step3_pickF rfl rfl (by first | rfl | assumption) rfl) ?_ | fail) | (show OkOps _ _ _ (Oper.mk _ (Op.box _ _) _ _ _ (_) :: _) _ _; first | refine s_box 0 rfl rfl rfl rfl rfl rfl ?_ | refine s_box 1 rfl rfl rfl rfl rfl rfl ?_ | fail) | refine s_e envOk rfl rfl rfl rfl ?_ | fail) | (show OkC _ _ _ _ _; first | refine ok_seq ?_ | refine ok_region ?_ | refine ok_block ?_ | refine ok_skip ?_ | refine ok_ret ?_ | refine ok_exit ?_ | refine ok_condT rfl ?_ | refine ok_cond rfl (fun h => ?_) (fun h => ?_) | refine ok_regionD progOk.mo ?_ | refine s_loop 4 rfl [(2, _), (3, _)] (subL_cons rfl (subL_cons rfl subL_nil)) (fun (k : Nat) => [(5, .one (.d (.int .i64 (k : Int))))]) (fun (k : Nat) => k ≤ a.args.length ∧ sameSs a.args b.args = sameSs (a.args.drop k) (b.args.drop k)) (fun (k : Nat) => a.args.length - k) 0 (subL_cons rfl subL_nil) ?_ (fun k ⟨hk, hs⟩ => ?_) | fail) | (show thenQ _ _ _ _; first | refine then_n ?_ | refine then_r ?_ | refine then_x ?_ | fail) | (show blockQ _ _ _ _; first | refine block_n ?_ | refine block_r ?_ | refine block_x rfl ?_ | fail) | (show RetQ _ _ _ _ _ _; first | refine ret_leaf (.inl rfl) rfl rfl ?_ | fail) | (show DRun _ _ _ _ _ _ _ _; first | refine d_nil (by kernel_rfl) ?_ | refine d_e envOk rfl rfl rfl (step3_plain rfl rfl) ?_ | (show DRun _ _ _ _ (Oper.mk _ (Op.indexAddr _ _ _) _ _ _ (_) :: _) _ _ _; first | refine d_e envOk rfl rfl rfl (step3_idx rfl rfl rfl rfl rfl (by first | omega | ((try simp only [decide_eq_true_eq, decide_eq_false_iff_not, Bool.not_eq_true', Bool.not_true, Bool.not_false, List.length_map, List.length_set, bne_iff_ne, ne_eq, beq_iff_eq, bne_eq_false_iff_eq, beq_eq_false_iff_ne] at *); omega)) (at_mapS (by first | omega | ((try simp only [decide_eq_true_eq, decide_eq_false_iff_not, Bool.not_eq_true', Bool.not_true, Bool.not_false, List.length_map, List.length_set, bne_iff_ne, ne_eq, beq_iff_eq, bne_eq_false_iff_eq, beq_eq_false_iff_ne] at *); omega)))) ?_ | fail) | (show DRun _ _ _ _ (Oper.mk _ (Op.call _) _ _ _ (_) :: _) _ _ _; first | refine d_l rfl rfl (loc_callF' rfl rfl rfl rfl rfl rfl (ih _ (at_mem (by first | omega | ((try simp only [decide_eq_true_eq, decide_eq_false_iff_not, Bool.not_eq_true', Bool.not_true, Bool.not_false, List.length_map, List.length_set, bne_iff_ne, ne_eq, beq_iff_eq, bne_eq_false_iff_eq, beq_eq_false_iff_ne] at *); omega))) _) rfl) ?_ | fail) | fail) | (show Exists _; first | refine Exists.intro (k + 1) ⟨?_, ?_, (by first | exact subL_nil | exact (subL_cons rfl subL_nil) | exact (subL_cons rfl (subL_cons rfl subL_nil)) | exact (subL_cons rfl (subL_cons rfl (subL_cons rfl subL_nil))) | exact (subL_cons rfl (subL_cons rfl (subL_cons rfl (subL_cons rfl subL_nil)))) | exact (subL_cons rfl (subL_cons rfl (subL_cons rfl (subL_cons rfl (subL_cons rfl subL_nil))))) | exact (subL_cons rfl (subL_cons rfl (subL_cons rfl (subL_cons rfl (subL_cons rfl (subL_cons rfl subL_nil)))))) | exact (subL_cons rfl (subL_cons rfl (subL_cons rfl (subL_cons rfl (subL_cons rfl (subL_cons rfl (subL_cons rfl subL_nil))))))) | exact (subL_cons rfl (subL_cons rfl (subL_cons rfl (subL_cons rfl (subL_cons rfl (subL_cons rfl (subL_cons rfl (subL_cons rfl subL_nil))))))))), (subL_cons rfl subL_nil), (subL_cons rfl (subL_cons rfl subL_nil))⟩ | fail) | fail)
    all_goals (try rw [sameV_eq] at *)
    all_goals first
      | (show _ - _ < _ - _
         omega)
      | exact ⟨Nat.zero_le _, by simp⟩
      | skip
    all_goals (try simp only [List.length_map, Int.toNat_natCast] at *)
    · have hl : a.args.length ≠ b.args.length := fun e => by simp [e] at h
      rw [sameSs_len hl]; simp
    · have hs' := hs.trans (sameSs_step (by simpa using h) (nat_bne (by assumption)))
      simp_all
    · have hk' : k < a.args.length := by simpa using h
      have hs' := hs.trans (sameSs_step hk' (nat_bne (by assumption)))
      exact ⟨hk', by simp_all⟩
    · have hk' : k < a.args.length := by simpa using h
      omega
    · have hs' := hs.trans (sameSs_end (by simpa using h) (nat_bne (by assumption)))
      simp_all
    all_goals simp_all
theorem c78 (a b : Scalar) : CallA Tryz.prog 78 [aggS a, aggS b] [] (.one (.d (.bool ((formF a == 0) && ((formF b == 0) && sameS a b))))) [] := by
  refine enter tabOk Tryz.func78 rfl (by decide +kernel) rfl fun hok w0 σ0 φ0 M => ?_
  clear hok
  repeat' (first | (show OkOps _ _ _ _ _ _; first | refine okops_nil ?_ | refine s_plain tabOk rfl rfl rfl rfl rfl ?_ | (show OkOps _ _ _ (Oper.mk _ (_) _ _ _ (some _) :: _) _ _; first | refine s_guard rfl rfl (by first | assumption | rfl) ?_ | refine s_out rfl rfl (by first | assumption | rfl) rfl rfl ?_ | refine s_split rfl rfl rfl rfl (fun h => ?_) (fun h => ?_) | fail) | (show OkOps _ _ _ (Oper.mk _ (Op.pick _ _ _) _ _ _ (_) :: _) _ _; first | refine s_e envOk rfl rfl rfl (step3_pickT rfl rfl (by first | rfl | assumption) rfl) ?_ | refine s_e envOk rfl rfl rfl (step3_pickF rfl rfl (by first | rfl | assumption) rfl) ?_ | fail) | (show OkOps _ _ _ (Oper.mk _ (Op.call _) _ _ _ (_) :: _) _ _; first | refine s_callF rfl rfl rfl rfl rfl rfl rfl rfl (c77 _) rfl ?_ | refine s_callF rfl rfl rfl rfl rfl rfl rfl rfl (c170 _ _) rfl ?_ | fail) | (show OkOps _ _ _ (Oper.mk _ (Op.box _ _) _ _ _ (_) :: _) _ _; first | refine s_box 0 rfl rfl rfl rfl rfl rfl ?_ | refine s_box 1 rfl rfl rfl rfl rfl rfl ?_ | fail) | fail) | (show OkC _ _ _ _ _; first | refine ok_seq ?_ | refine ok_region ?_ | refine ok_ret ?_ | fail) | (show thenQ _ _ _ _; first | refine then_n ?_ | fail) | (show RetQ _ _ _ _ _ _; first | refine ret_leaf (.inl rfl) rfl rfl ?_ | fail) | fail)
  all_goals (try (((simp_all [at_drop, List.drop_eq_nil_of_le]) <;> first | omega | (rw [Bool.eq_iff_iff]; simp; omega) | grind); done))
theorem c221 (g : Nat) (l m : List Scalar) (he : ∀ x ∈ l, ∀ y, CallA Tryz.prog g [aggS x, aggS y] [] (.one (.d (.bool (sameS x y)))) []) : CallA Tryz.prog 221 [.one (.d (encScalars l)), .one (.d (encScalars m)), .one (.d (.fn g []))] [] (.one (.d (.bool (sameSs l m)))) [] := by
  refine enter tabOk Tryz.func221 rfl (by decide +kernel) rfl fun hok w0 σ0 φ0 M => ?_
  have h1 := (OkD.sl hok.1).1; clear hok; simp only [List.length_map] at h1
  repeat' (first | (show OkOps _ _ _ _ _ _; first | refine okops_nil ?_ | refine s_plain tabOk rfl rfl rfl rfl rfl ?_ | (show OkOps _ _ _ (Oper.mk _ (Op.binOp .add _ _ _ _) _ _ _ (_) :: _) _ _; first | refine s_e envOk rfl rfl rfl (step3_add rfl rfl rfl rfl (wrap64 (by omega) (by omega))) ?_ | fail) | (show OkOps _ _ _ (Oper.mk _ (Op.indexAddr _ _ _) _ _ _ (_) :: _) _ _; first | refine s_e envOk rfl rfl rfl (step3_idx rfl rfl rfl rfl rfl (by first | omega | ((try simp only [decide_eq_true_eq, decide_eq_false_iff_not, Bool.not_eq_true', Bool.not_true, Bool.not_false, List.length_map, List.length_set, bne_iff_ne, ne_eq, beq_iff_eq, bne_eq_false_iff_eq, beq_eq_false_iff_ne] at *); omega)) (at_mapS (by first | omega | ((try simp only [decide_eq_true_eq, decide_eq_false_iff_not, Bool.not_eq_true', Bool.not_true, Bool.not_false, List.length_map, List.length_set, bne_iff_ne, ne_eq, beq_iff_eq, bne_eq_false_iff_eq, beq_eq_false_iff_ne] at *); omega)))) ?_ | fail) | (show OkOps _ _ _ (Oper.mk _ (Op.call _) _ _ _ (_) :: _) _ _; first | refine s_callF rfl rfl rfl rfl rfl rfl rfl rfl ((he _ (at_mem (by first | omega | ((try simp only [decide_eq_true_eq, decide_eq_false_iff_not, Bool.not_eq_true', Bool.not_true, Bool.not_false, List.length_map, List.length_set, bne_iff_ne, ne_eq, beq_iff_eq, bne_eq_false_iff_eq, beq_eq_false_iff_ne] at *); omega))) _)) rfl ?_ | fail) | (show OkOps _ _ _ (Oper.mk _ (Op.alloc _) _ _ _ (_) :: _) _ _; first | refine s_alloc tabOk 0 rfl rfl rfl rfl rfl ?_ | refine s_alloc tabOk 1 rfl rfl rfl rfl rfl ?_ | fail) | refine s_store envOk rfl rfl rfl ?_ | fail) | (show OkC _ _ _ _ _; first | refine ok_seq ?_ | refine ok_region ?_ | refine ok_block ?_ | refine ok_skip ?_ | refine ok_ret ?_ | refine ok_exit ?_ | refine ok_cond rfl (fun h => ?_) (fun h => ?_) | refine s_loop 4 rfl [(1, _), (2, _), (15, _), (16, _)] (subL_cons rfl (subL_cons rfl (subL_cons rfl (subL_cons rfl subL_nil)))) (fun (k : Nat) => [(17, .one (.d (.int .i64 (k : Int))))]) (fun (k : Nat) => k ≤ l.length ∧ sameSs l m = sameSs (l.drop k) (m.drop k)) (fun (k : Nat) => l.length - k) 0 (subL_cons rfl subL_nil) ?_ (fun k ⟨hk, hs⟩ => ?_) | fail) | (show thenQ _ _ _ _; first | refine then_n ?_ | refine then_r ?_ | refine then_x ?_ | fail) | (show blockQ _ _ _ _; first | refine block_n ?_ | refine block_r ?_ | refine block_x rfl ?_ | fail) | (show RetQ _ _ _ _ _ _; first | refine ret_leaf (.inl rfl) rfl rfl ?_ | fail) | (show Exists _; first | refine Exists.intro (k + 1) ⟨?_, ?_, (by first | exact subL_nil | exact (subL_cons rfl subL_nil) | exact (subL_cons rfl (subL_cons rfl subL_nil)) | exact (subL_cons rfl (subL_cons rfl (subL_cons rfl subL_nil))) | exact (subL_cons rfl (subL_cons rfl (subL_cons rfl (subL_cons rfl subL_nil)))) | exact (subL_cons rfl (subL_cons rfl (subL_cons rfl (subL_cons rfl (subL_cons rfl subL_nil))))) | exact (subL_cons rfl (subL_cons rfl (subL_cons rfl (subL_cons rfl (subL_cons rfl (subL_cons rfl subL_nil)))))) | exact (subL_cons rfl (subL_cons rfl (subL_cons rfl (subL_cons rfl (subL_cons rfl (subL_cons rfl (subL_cons rfl subL_nil))))))) | exact (subL_cons rfl (subL_cons rfl (subL_cons rfl (subL_cons rfl (subL_cons rfl (subL_cons rfl (subL_cons rfl (subL_cons rfl subL_nil))))))))), (subL_cons rfl subL_nil), (subL_cons rfl (subL_cons rfl (subL_cons rfl (subL_cons rfl subL_nil))))⟩ | fail) | fail)
  all_goals (try simp only [List.length_map, Int.toNat_natCast] at *)
  · have hl : l.length ≠ m.length := fun e => by simp [e] at h
    rw [sameSs_len hl]
  · exact ⟨Nat.zero_le _, by simp⟩
  · have hs' := hs.trans (sameSs_step (by simpa using h) (nat_bne (by assumption)))
    simp_all
  · have hk' : k < l.length := by simpa using h
    have hs' := hs.trans (sameSs_step hk' (nat_bne (by assumption)))
    exact ⟨hk', by simp_all⟩
  · have hk' : k < l.length := by simpa using h
    omega
  · have hs' := hs.trans (sameSs_end (by simpa using h) (nat_bne (by assumption)))
    simp_all
theorem c171 (a : Scalar) : ∀ b : Scalar, CallA Tryz.prog 171 [aggS a, aggS b] [] (.one (.d (.bool (sameS a b)))) [] := by
  induction a using Scalar.ind with
  | h a ih =>
    intro b
    refine enter tabOk Tryz.func171 rfl (by decide +kernel) rfl fun hok w0 σ0 φ0 M => ?_
    clear hok
    rw [sameS_eq]
    repeat' (first | (show OkOps _ _ _ _ _ _; first | refine okops_nil ?_ | refine s_plain tabOk rfl rfl rfl rfl rfl ?_ | (show OkOps _ _ _ (Oper.mk _ (_) _ _ _ (some _) :: _) _ _; first | refine s_guard rfl rfl (by first | assumption | rfl) ?_ | refine s_out rfl rfl (by first | assumption | rfl) rfl rfl ?_ | refine s_split rfl rfl rfl rfl (fun h => ?_) (fun h => ?_) | fail) | (show OkOps _ _ _ (Oper.mk _ (Op.pick _ _ _) _ _ _ (_) :: _) _ _; first | refine s_e envOk rfl rfl rfl (step3_pickT rfl rfl (by first | rfl | assumption) rfl) ?_ | refine s_e envOk rfl rfl rfl (step3_pickF rfl rfl (by first | rfl | assumption) rfl) ?_ | fail) | (show OkOps _ _ _ (Oper.mk _ (Op.call _) _ _ _ (_) :: _) _ _; first | refine s_callF rfl rfl rfl rfl rfl rfl rfl rfl (c221 171 _ _ ih) rfl ?_ | fail) | (show OkOps _ _ _ (Oper.mk _ (Op.box _ _) _ _ _ (_) :: _) _ _; first | refine s_box 0 rfl rfl rfl rfl rfl rfl ?_ | refine s_box 1 rfl rfl rfl rfl rfl rfl ?_ | fail) | refine s_e envOk rfl rfl rfl rfl ?_ | fail) | (show OkC _ _ _ _ _; first | refine ok_seq ?_ | refine ok_region ?_ | refine ok_ret ?_ | fail) | (show thenQ _ _ _ _; first | refine then_n ?_ | fail) | (show RetQ _ _ _ _ _ _; first | refine ret_leaf (.inl rfl) rfl rfl ?_ | fail) | fail)
    all_goals (try rw [sameV_eq] at *)
    all_goals simp_all
theorem c79 (a b : Scalar) : CallA Tryz.prog 79 [aggS a, aggS b] [] (.one (.d (.bool ((formF a == 0) && ((formF b == 0) && sameS a b))))) [] := by
  refine enter tabOk Tryz.func79 rfl (by decide +kernel) rfl fun hok w0 σ0 φ0 M => ?_
  clear hok
  repeat' (first | (show OkOps _ _ _ _ _ _; first | refine okops_nil ?_ | refine s_plain tabOk rfl rfl rfl rfl rfl ?_ | (show OkOps _ _ _ (Oper.mk _ (_) _ _ _ (some _) :: _) _ _; first | refine s_guard rfl rfl (by first | assumption | rfl) ?_ | refine s_out rfl rfl (by first | assumption | rfl) rfl rfl ?_ | refine s_split rfl rfl rfl rfl (fun h => ?_) (fun h => ?_) | fail) | (show OkOps _ _ _ (Oper.mk _ (Op.pick _ _ _) _ _ _ (_) :: _) _ _; first | refine s_e envOk rfl rfl rfl (step3_pickT rfl rfl (by first | rfl | assumption) rfl) ?_ | refine s_e envOk rfl rfl rfl (step3_pickF rfl rfl (by first | rfl | assumption) rfl) ?_ | fail) | (show OkOps _ _ _ (Oper.mk _ (Op.call _) _ _ _ (_) :: _) _ _; first | refine s_callF rfl rfl rfl rfl rfl rfl rfl rfl (c87 _) rfl ?_ | refine s_callF rfl rfl rfl rfl rfl rfl rfl rfl (c171 _ _) rfl ?_ | fail) | (show OkOps _ _ _ (Oper.mk _ (Op.box _ _) _ _ _ (_) :: _) _ _; first | refine s_box 0 rfl rfl rfl rfl rfl rfl ?_ | refine s_box 1 rfl rfl rfl rfl rfl rfl ?_ | fail) | fail) | (show OkC _ _ _ _ _; first | refine ok_seq ?_ | refine ok_region ?_ | refine ok_ret ?_ | fail) | (show thenQ _ _ _ _; first | refine then_n ?_ | fail) | (show RetQ _ _ _ _ _ _; first | refine ret_leaf (.inl rfl) rfl rfl ?_ | fail) | fail)
  all_goals (try (((simp_all [at_drop, List.drop_eq_nil_of_le]) <;> first | omega | (rw [Bool.eq_iff_iff]; simp; omega) | grind); done))
end Go.Proofs.YtpejdgkaapnekaaGreat
namespace Go.Abs
open Go
variable {P : Program} {V : Env} {st : St} {o : Oper}
theorem step3_idxOwn {t e : TypeId} {x y : Operand} {id m k k' b b' : Nat} {ik : IntKind} {i : Int} {xs : List (List D)} {z : List D} (ho : o.op = .indexAddr t x y) (ht : sliceTy V.T t = some (e, k', b', z)) (hx : ev st x = some (.one (.own id m)))
    (hl : look st.sto id = some (.row k b xs)) (hk : Nat.beq k k' = true) (hy : ev st y = some (.one (.d (.int ik i)))) (h0 : 0 ≤ i) (hm : i < (m : Int)) : step3 V st o 0 = some ⟨.one (.rref id i.toNat 0), [], []⟩ := by
  simp only [step3, stepE, valF, ho, otherE, idxV, hx, hy, ht, hl, hk, h0, hm, decide_true, Bool.and_self, cond_true]
theorem step3_loadRow {t : TypeId} {x : Operand} {id j off k b s : Nat} {g : Bool} {xs : List (List D)} {el : List D} {v : AV} (ho : o.op = .load t x) (hx : ev st x = some (.one (.rref id j off))) (hT : tySz V.T t = some (g, s))
    (hl : look st.sto id = some (.row k b xs)) (hj : xs[j]? = some el) (hv : takeAs g s ((el.drop off).map .d) = some v) : step3 V st o 0 = some ⟨v, [], []⟩ := by
  simp only [step3, stepE, valF, ho, otherE, hx, hT, hl, loadF, loadRV, nth_eq, hj, hv]
theorem step3_storeRow {t : TypeId} {x y : Operand} {id j off k b s : Nat} {g : Bool} {xs : List (List D)} {el el' ds : List D} {cs : List AC} {v : AV} (ho : o.op = .store t x y) (hd : o.dst = none) (hx : ev st x = some (.one (.rref id j off))) (hy : ev st y = some v) (hT : tySz V.T t = some (g, s))
    (hl : look st.sto id = some (.row k b xs)) (hc : cellsOf v = some cs) (hs : Nat.beq cs.length s = true) (ha : allD cs = some ds) (hj : xs[j]? = some el) (hsp : splice off ds el = some el') : step3 V st o 0 = some ⟨.any, [(id, some (.row k b (xs.set j el')))], []⟩ := by
  simp only [step3, stepE, valF, ho, otherE, hx, hy, hT, hl, hc, hs, ha, storeV, nth_eq, hj, hsp, cond_true]
  simp [hd, hasD]
theorem row_get {α : Type} [Inhabited α] {f : α → List D} {l : List α} {xs : List (List D)} {i : Nat} (h : xs = l.map f) (hi : i < xs.length) : xs[i]? = some (f (at_ l i)) := by
  subst h; exact at_map (by simpa using hi)
theorem step3_makeSlice {t e : TypeId} {x y : Operand} {id n k b d : Nat} {i j : Int} {z : List D} (ho : o.op = .makeSlice t x y) (hd : o.dst = some d) (ht : sliceTy V.T t = some (e, k, b, z)) (hx : ev st x = some (.one (.d (.int .i64 i)))) (hy : ev st y = some (.one (.d (.int .i64 j)))) (hi : i = (n : Int)) (hj : j = (n : Int)) (hn : n ≤ 1000) (hb : b ≤ 100) :
    step3 V st o id = some ⟨.one (.own id n), [(id, some (.row k b (List.replicate n z)))], [id]⟩ := by
  subst hi; subst hj
  have h1 : Nat.ble (n * b) 1000000 = true := Nat.ble_eq.mpr (Nat.le_trans (Nat.mul_le_mul hn hb) (by omega))
  have h2 : Nat.ble n 1000000 = true := Nat.ble_eq.mpr (by omega)
  have h3 : (0 : Int) ≤ (n : Int) := Int.natCast_nonneg n
  simp only [step3, stepE, valF, ho, otherE, newF, hx, hy, ht, hd, hasD, h3, decide_true, Int.toNat_natCast, h1, h2, Bool.and_self, cond_true]
end Go.Abs
namespace Go.Proofs.YtpejdgkaapnekaaGreat
open Go Go.Abs
attribute [local irreducible] OkOps OkC DRun thenQ blockQ RetQ
set_option maxRecDepth 10000
mutual
def renS (f t : List UInt8) : Scalar → Scalar
  | .mk o n v a => .mk o (if (o == 2 || o == 3) && n == f then t else n) v (renSs f t a)
def renSs (f t : List UInt8) : List Scalar → List Scalar
  | [] => []
  | x :: r => renS f t x :: renSs f t r
end
theorem renSs_map {f t : List UInt8} : ∀ {l : List Scalar}, renSs f t l = l.map (renS f t)
  | [] => rfl
  | x :: r => by simp [renSs, renSs_map (l := r)]
theorem renS_eq {f t : List UInt8} : ∀ {s : Scalar}, renS f t s = .mk s.op (if namedF s && s.name == f then t else s.name) s.val (s.args.map (renS f t))
  | .mk o n v a => by simp [renS, renSs_map, namedF, Scalar.op, Scalar.name, Scalar.val, Scalar.args]
theorem aggS_ren {f t : List UInt8} {s : Scalar} : aggS (renS f t s) = .agg [.d (.int .i64 s.op), .d (.str (if namedF s && s.name == f then t else s.name)), .d (.int .i64 s.val.kind), .d (.int .i64 s.val.num), .d (.int .i64 s.val.den), .d (.str s.val.str), .d (.sl 7 88 (s.args.map fun x => rowS (renS f t x)))] := by
  rw [renS_eq]
  simp only [aggS, Scalar.op, Scalar.name, Scalar.val, Scalar.args, encScalars, List.map_map]
  congr 9
  exact congrArg _ (List.map_congr_left fun x _ => encS_eq _)
theorem post_mem : ∀ {l : List Scalar} {x : Scalar}, x ∈ l → (postL x).length ≤ (postLs l).length
  | y :: r, x, h => by
    simp only [postLs, List.length_append]
    rcases List.mem_cons.1 h with rfl | h
    · omega
    · have := post_mem h; omega
theorem post_len : ∀ {l : List Scalar}, l.length ≤ (postLs l).length
  | [] => Nat.le_refl _
  | y :: r => by
    have := post_len (l := r)
    have h : 1 ≤ (postL y).length := by rw [postL_eq]; simp
    simp only [postLs, List.length_append, List.length_cons]; omega
theorem post_args {s : Scalar} : s.args.length + 1 ≤ (postL s).length ∧ ∀ x ∈ s.args, (postL x).length ≤ (postL s).length := by
  rw [postL_eq, List.length_append]
  have := post_len (l := s.args)
  exact ⟨by simp only [List.length_cons, List.length_nil]; omega, fun x hx => by have := post_mem hx; omega⟩
def mixR {α : Type} (Y : List α) (z : α) (k : Nat) : List α := Y.take k ++ List.replicate (Y.length - k) z
theorem mixR_next {α : Type} [Inhabited α] {Y : List α} {z : α} {k : Nat} (h : k < Y.length) : (mixR Y z k).set k (at_ Y k) = mixR Y z (k + 1) := by
  unfold mixR
  have hl : (Y.take k).length = k := by simp; omega
  obtain ⟨m, hm⟩ : ∃ m, Y.length - k = m + 1 := ⟨Y.length - k - 1, by omega⟩
  rw [List.set_append, if_neg (by omega), hl, Nat.sub_self, hm, List.replicate_succ, List.set_cons_zero, at_take h, List.append_assoc, show Y.length - (k + 1) = m by omega]
  rfl
theorem mixR_all {α : Type} {Y : List α} {z : α} : mixR Y z Y.length = Y := by simp [mixR]
theorem mixR_zero {α : Type} {Y : List α} {z : α} : mixR Y z 0 = List.replicate Y.length z := by simp [mixR]
theorem row_more {α : Type} [Inhabited α] (f : α → List D) (l : List α) {n : Nat} {r : List (List D)} (h : r = (l.take n).map f) (hlt : n < l.length) : r.take n ++ [f (at_ l n)] = (l.take (n + 1)).map f := by
  rw [h, List.take_of_length_le (by simp; omega), at_take hlt, List.map_append]; rfl
theorem ren_split (s : Scalar) (f t : List UInt8) :
    ((namedF s && s.name == f) = true ∧ ((s.op == 2) = true ∧ (s.name == f) = true ∨ (s.op == 2) = false ∧ (s.op == 3) = true ∧ (s.name == f) = true)) ∨
    ((namedF s && s.name == f) = false ∧ ((s.op == 2) = true ∧ (s.name == f) = false ∨ (s.op == 2) = false ∧ (s.op == 3) = true ∧ (s.name == f) = false ∨ (s.op == 2) = false ∧ (s.op == 3) = false)) := by
  unfold namedF
  cases s.op == 2 <;> cases s.op == 3 <;> cases s.name == f <;> simp
set_option maxHeartbeats 4000000 in
theorem c168 (f t : List UInt8) (s : Scalar) : (postL s).length ≤ 64 → CallA Tryz.prog 168 [aggS s, .one (.d (.str f)), .one (.d (.str t))] [] (aggS (renS f t s)) [] := by
  induction s using Scalar.ind with
  | h s ih =>
    intro hsz
    obtain ⟨hl, hx⟩ := post_args (s := s)
    replace ih := fun x hm => ih x hm (Nat.le_trans (hx x hm) hsz)
    rw [aggS_ren]
    refine enter tabOk Tryz.func168 rfl (by decide +kernel) rfl fun hok w0 σ0 φ0 M => ?_
    clear hok
    have hlen : s.args.length ≤ 64 := by omega
    rcases ren_split s f t with ⟨hc, h⟩ | ⟨hc, h⟩
    · simp only [hc, if_true]
      rcases h with ⟨hb2, hbn⟩ | ⟨hb2, hb3, hbn⟩
      repeat' (first | (show OkOps _ _ _ _ _ _; first | refine okops_nil ?_ | refine s_plain tabOk rfl rfl rfl rfl rfl ?_ | (show OkOps _ _ _ (Oper.mk _ (_) _ _ _ (some _) :: _) _ _; first | refine s_guard rfl rfl (by first | assumption | rfl) ?_ | refine s_out rfl rfl (by first | assumption | rfl) rfl rfl ?_ | fail) | (show OkOps _ _ _ (Oper.mk _ (Op.binOp .add _ _ _ _) _ _ _ (_) :: _) _ _; first | refine s_e envOk rfl rfl rfl (step3_add rfl rfl rfl rfl (wrap64 (by omega) (by omega))) ?_ | fail) | (show OkOps _ _ _ (Oper.mk _ (Op.pick _ _ _) _ _ _ (_) :: _) _ _; first | refine s_e envOk rfl rfl rfl (step3_pickT rfl rfl (by first | rfl | assumption) rfl) ?_ | refine s_e envOk rfl rfl rfl (step3_pickF rfl rfl (by first | rfl | assumption) rfl) ?_ | fail) | (show OkOps _ _ _ (Oper.mk _ (Op.box _ _) _ _ _ (_) :: _) _ _; first | refine s_box 0 rfl rfl rfl rfl rfl rfl ?_ | fail) | (show OkOps _ _ _ (Oper.mk _ (Op.alloc _) _ _ _ (_) :: _) _ _; first | refine s_alloc tabOk 1 rfl rfl rfl rfl rfl ?_ | refine s_alloc tabOk 2 rfl rfl rfl rfl rfl ?_ | fail) | refine s_store envOk rfl rfl rfl ?_ | fail) | (show OkC _ _ _ _ _; first | refine okc_imp (imp_sealL (dl := [10]) rfl) (ok_ret ?_) | refine ok_seq ?_ | refine ok_region ?_ | refine ok_block ?_ | refine ok_skip ?_ | refine ok_exit ?_ | refine ok_condKT rfl (by assumption) ?_ | refine ok_cond rfl (fun h => ?_) (fun h => ?_) | refine ok_regionD progOk.mo ?_ | refine s_loopN 5 rfl (imp_adoptJ 2 6 10 (k := 7) (b := 88) rfl rfl (by kernel_rfl)) [(1, _), (2, _), (3, _), (6, _), (7, _)] (subL_cons rfl (subL_cons rfl (subL_cons rfl (subL_cons rfl (subL_cons rfl subL_nil))))) (fun (bN : Bool × Bool) (p : Nat × List (List D)) => [(8, .one (.d (.int .i64 (p.1 : Int))))]) (fun (bN : Bool × Bool) (p : Nat × List (List D)) => [(2, .box [.d (.int .i64 s.op), .d (.str t), .d (.int .i64 s.val.kind), .d (.int .i64 s.val.num), .d (.int .i64 s.val.den), .d (.str s.val.str), .own (nmA bN) p.1]), ((nmA bN), .row 7 88 p.2), (0, .box [.d (.int .i64 s.op), .d (.str s.name), .d (.int .i64 s.val.kind), .d (.int .i64 s.val.num), .d (.int .i64 s.val.den), .d (.str s.val.str), .d (encScalars s.args)]), (1, .box [.d (.int .i64 0), .d (.str []), .d (.int .i64 0), .d (.int .i64 0), .d (.int .i64 0), .d (.str []), .d .nil])]) (fun (p : Nat × List (List D)) => p.1 ≤ s.args.length ∧ p.2 = (s.args.take p.1).map (fun x => rowS (renS f t x))) (fun (p : Nat × List (List D)) => s.args.length - p.1) (0, []) (subL_cons rfl subL_nil) (by first | exact subL_nil | exact (subL_cons rfl subL_nil) | exact (subL_cons rfl (subL_cons rfl subL_nil)) | exact (subL_cons rfl (subL_cons rfl (subL_cons rfl subL_nil))) | exact (subL_cons rfl (subL_cons rfl (subL_cons rfl (subL_cons rfl subL_nil)))) | exact (subL_cons rfl (subL_cons rfl (subL_cons rfl (subL_cons rfl (subL_cons rfl subL_nil))))) | exact (subL_cons rfl (subL_cons rfl (subL_cons rfl (subL_cons rfl (subL_cons rfl (subL_cons rfl subL_nil)))))) | exact (subL_cons rfl (subL_cons rfl (subL_cons rfl (subL_cons rfl (subL_cons rfl (subL_cons rfl (subL_cons rfl subL_nil))))))) | exact (subL_cons rfl (subL_cons rfl (subL_cons rfl (subL_cons rfl (subL_cons rfl (subL_cons rfl (subL_cons rfl (subL_cons rfl subL_nil))))))))) (fun b y => by obtain ⟨b1, b2⟩ := b; cases b1 <;> cases b2 <;> first | exact Imp.refl _ | exact imp_ren qN (by kernel_rfl)) ?_ (fun p ⟨hk, hr⟩ => ?_) | fail) | (show thenQ _ _ _ _; first | refine then_n ?_ | refine then_x ?_ | fail) | (show blockQ _ _ _ _; first | refine block_n ?_ | refine block_x rfl ?_ | fail) | (show RetQ _ _ _ _ _ _; first | refine ret_leaf (.inl rfl) rfl rfl ?_ | fail) | (show DRun _ _ _ _ _ _ _ _; first | (show DRun _ _ _ _ (Oper.mk _ (Op.call _) _ _ _ (_) :: _) _ _ _; first | refine d_new envOk 11 rfl rfl rfl (step3_appendB (i := 10) rfl rfl rfl rfl rfl rfl rfl rfl (by first | omega | ((try simp only [decide_eq_true_eq, decide_eq_false_iff_not, List.length_map, List.length_cons, List.length_nil, List.length_append, List.length_take, List.length_drop, Int.toNat_natCast] at *); omega)) (by first | exact Nat.le_of_ble_eq_true rfl | omega | ((try simp only [decide_eq_true_eq, decide_eq_false_iff_not, List.length_map, List.length_cons, List.length_nil, List.length_append, List.length_take, List.length_drop, Int.toNat_natCast] at *); omega)) (Nat.le_of_ble_eq_true rfl)) rfl rfl ?_ | fail) | refine d_nil (by kernel_rfl) ?_ | refine d_e envOk rfl rfl rfl (step3_plain rfl rfl) ?_ | (show DRun _ _ _ _ (Oper.mk _ (Op.indexAddr _ _ _) _ _ _ (_) :: _) _ _ _; first | refine d_e envOk rfl rfl rfl (step3_idx rfl rfl rfl rfl rfl (by first | omega | ((try simp only [decide_eq_true_eq, decide_eq_false_iff_not, Bool.not_eq_true', Bool.not_true, Bool.not_false, List.length_map, List.length_set, bne_iff_ne, ne_eq, beq_iff_eq, bne_eq_false_iff_eq, beq_eq_false_iff_ne] at *); omega)) (at_mapS (by first | omega | ((try simp only [decide_eq_true_eq, decide_eq_false_iff_not, Bool.not_eq_true', Bool.not_true, Bool.not_false, List.length_map, List.length_set, bne_iff_ne, ne_eq, beq_iff_eq, bne_eq_false_iff_eq, beq_eq_false_iff_ne] at *); omega)))) ?_ | fail) | (show DRun _ _ _ _ (Oper.mk _ (Op.call _) _ _ _ (_) :: _) _ _ _; first | refine d_callD 16 rfl rfl rfl rfl rfl rfl rfl rfl (ih _ (at_mem (by first | omega | ((try simp only [decide_eq_true_eq, decide_eq_false_iff_not, Bool.not_eq_true', Bool.not_true, Bool.not_false, List.length_map, List.length_set, bne_iff_ne, ne_eq, beq_iff_eq, bne_eq_false_iff_eq, beq_eq_false_iff_ne] at *); omega)))) rfl rfl ?_ | fail) | refine d_new envOk 3 rfl rfl rfl rfl rfl rfl ?_ | refine d_store envOk rfl rfl rfl ?_ | fail) | (show Exists _; first | refine Exists.intro ((p.1 + 1, p.2.take p.1 ++ [rowS (renS f t (at_ s.args p.1))])) (Exists.intro (true, false) ⟨?_, ?_, (by first | exact subL_nil | exact (subL_cons rfl subL_nil) | exact (subL_cons rfl (subL_cons rfl subL_nil)) | exact (subL_cons rfl (subL_cons rfl (subL_cons rfl subL_nil))) | exact (subL_cons rfl (subL_cons rfl (subL_cons rfl (subL_cons rfl subL_nil)))) | exact (subL_cons rfl (subL_cons rfl (subL_cons rfl (subL_cons rfl (subL_cons rfl subL_nil))))) | exact (subL_cons rfl (subL_cons rfl (subL_cons rfl (subL_cons rfl (subL_cons rfl (subL_cons rfl subL_nil)))))) | exact (subL_cons rfl (subL_cons rfl (subL_cons rfl (subL_cons rfl (subL_cons rfl (subL_cons rfl (subL_cons rfl subL_nil))))))) | exact (subL_cons rfl (subL_cons rfl (subL_cons rfl (subL_cons rfl (subL_cons rfl (subL_cons rfl (subL_cons rfl (subL_cons rfl subL_nil))))))))), (subL_cons rfl subL_nil), (subL_cons rfl (subL_cons rfl (subL_cons rfl (subL_cons rfl (subL_cons rfl subL_nil)))))⟩) | fail) | fail)
      all_goals first
        | exact ⟨Nat.zero_le _, rfl⟩
        | (have hlt : p.1 < s.args.length := by simpa using h
           exact ⟨hlt, row_more (fun x => rowS (renS f t x)) s.args hr hlt⟩)
        | (have hlt : p.1 < s.args.length := by simpa using h
           show s.args.length - (p.1 + 1) < s.args.length - p.1
           omega)
        | (have hge : s.args.length ≤ p.1 := by simpa using h
           have e : p.2.take p.1 = s.args.map fun x => rowS (renS f t x) := by rw [hr, List.take_of_length_le (by simp; omega), List.take_of_length_le hge]
           show AV.agg [.d (.int .i64 s.op), .d (.str t), .d (.int .i64 s.val.kind), .d (.int .i64 s.val.num), .d (.int .i64 s.val.den), .d (.str s.val.str), .d (.sl 7 88 (p.2.take p.1))] = _
           rw [e])
        | trace_state
    · simp only [hc, if_false, Bool.false_eq_true]
      rcases h with ⟨hb2, hbn⟩ | ⟨hb2, hb3, hbn⟩ | ⟨hb2, hb3⟩
      repeat' (first | (show OkOps _ _ _ _ _ _; first | refine okops_nil ?_ | refine s_plain tabOk rfl rfl rfl rfl rfl ?_ | (show OkOps _ _ _ (Oper.mk _ (_) _ _ _ (some _) :: _) _ _; first | refine s_guard rfl rfl (by first | assumption | rfl) ?_ | refine s_out rfl rfl (by first | assumption | rfl) rfl rfl ?_ | fail) | (show OkOps _ _ _ (Oper.mk _ (Op.binOp .add _ _ _ _) _ _ _ (_) :: _) _ _; first | refine s_e envOk rfl rfl rfl (step3_add rfl rfl rfl rfl (wrap64 (by omega) (by omega))) ?_ | fail) | (show OkOps _ _ _ (Oper.mk _ (Op.pick _ _ _) _ _ _ (_) :: _) _ _; first | refine s_e envOk rfl rfl rfl (step3_pickT rfl rfl (by first | rfl | assumption) rfl) ?_ | refine s_e envOk rfl rfl rfl (step3_pickF rfl rfl (by first | rfl | assumption) rfl) ?_ | fail) | (show OkOps _ _ _ (Oper.mk _ (Op.box _ _) _ _ _ (_) :: _) _ _; first | refine s_box 0 rfl rfl rfl rfl rfl rfl ?_ | fail) | (show OkOps _ _ _ (Oper.mk _ (Op.alloc _) _ _ _ (_) :: _) _ _; first | refine s_alloc tabOk 1 rfl rfl rfl rfl rfl ?_ | refine s_alloc tabOk 2 rfl rfl rfl rfl rfl ?_ | fail) | refine s_store envOk rfl rfl rfl ?_ | fail) | (show OkC _ _ _ _ _; first | refine okc_imp (imp_sealL (dl := [10]) rfl) (ok_ret ?_) | refine ok_seq ?_ | refine ok_region ?_ | refine ok_block ?_ | refine ok_skip ?_ | refine ok_exit ?_ | refine ok_condF rfl ?_ | refine ok_condKF rfl (by assumption) ?_ | refine ok_cond rfl (fun h => ?_) (fun h => ?_) | refine ok_regionD progOk.mo ?_ | refine s_loopN 5 rfl (imp_adoptJ 2 6 10 (k := 7) (b := 88) rfl rfl (by kernel_rfl)) [(1, _), (2, _), (3, _), (6, _), (7, _)] (subL_cons rfl (subL_cons rfl (subL_cons rfl (subL_cons rfl (subL_cons rfl subL_nil))))) (fun (bN : Bool × Bool) (p : Nat × List (List D)) => [(8, .one (.d (.int .i64 (p.1 : Int))))]) (fun (bN : Bool × Bool) (p : Nat × List (List D)) => [(2, .box [.d (.int .i64 s.op), .d (.str s.name), .d (.int .i64 s.val.kind), .d (.int .i64 s.val.num), .d (.int .i64 s.val.den), .d (.str s.val.str), .own (nmA bN) p.1]), ((nmA bN), .row 7 88 p.2), (0, .box [.d (.int .i64 s.op), .d (.str s.name), .d (.int .i64 s.val.kind), .d (.int .i64 s.val.num), .d (.int .i64 s.val.den), .d (.str s.val.str), .d (encScalars s.args)]), (1, .box [.d (.int .i64 0), .d (.str []), .d (.int .i64 0), .d (.int .i64 0), .d (.int .i64 0), .d (.str []), .d .nil])]) (fun (p : Nat × List (List D)) => p.1 ≤ s.args.length ∧ p.2 = (s.args.take p.1).map (fun x => rowS (renS f t x))) (fun (p : Nat × List (List D)) => s.args.length - p.1) (0, []) (subL_cons rfl subL_nil) (by first | exact subL_nil | exact (subL_cons rfl subL_nil) | exact (subL_cons rfl (subL_cons rfl subL_nil)) | exact (subL_cons rfl (subL_cons rfl (subL_cons rfl subL_nil))) | exact (subL_cons rfl (subL_cons rfl (subL_cons rfl (subL_cons rfl subL_nil)))) | exact (subL_cons rfl (subL_cons rfl (subL_cons rfl (subL_cons rfl (subL_cons rfl subL_nil))))) | exact (subL_cons rfl (subL_cons rfl (subL_cons rfl (subL_cons rfl (subL_cons rfl (subL_cons rfl subL_nil)))))) | exact (subL_cons rfl (subL_cons rfl (subL_cons rfl (subL_cons rfl (subL_cons rfl (subL_cons rfl (subL_cons rfl subL_nil))))))) | exact (subL_cons rfl (subL_cons rfl (subL_cons rfl (subL_cons rfl (subL_cons rfl (subL_cons rfl (subL_cons rfl (subL_cons rfl subL_nil))))))))) (fun b y => by obtain ⟨b1, b2⟩ := b; cases b1 <;> cases b2 <;> first | exact Imp.refl _ | exact imp_ren qN (by kernel_rfl)) ?_ (fun p ⟨hk, hr⟩ => ?_) | fail) | (show thenQ _ _ _ _; first | refine then_n ?_ | refine then_x ?_ | fail) | (show blockQ _ _ _ _; first | refine block_n ?_ | refine block_x rfl ?_ | fail) | (show RetQ _ _ _ _ _ _; first | refine ret_leaf (.inl rfl) rfl rfl ?_ | fail) | (show DRun _ _ _ _ _ _ _ _; first | (show DRun _ _ _ _ (Oper.mk _ (Op.call _) _ _ _ (_) :: _) _ _ _; first | refine d_new envOk 11 rfl rfl rfl (step3_appendB (i := 10) rfl rfl rfl rfl rfl rfl rfl rfl (by first | omega | ((try simp only [decide_eq_true_eq, decide_eq_false_iff_not, List.length_map, List.length_cons, List.length_nil, List.length_append, List.length_take, List.length_drop, Int.toNat_natCast] at *); omega)) (by first | exact Nat.le_of_ble_eq_true rfl | omega | ((try simp only [decide_eq_true_eq, decide_eq_false_iff_not, List.length_map, List.length_cons, List.length_nil, List.length_append, List.length_take, List.length_drop, Int.toNat_natCast] at *); omega)) (Nat.le_of_ble_eq_true rfl)) rfl rfl ?_ | fail) | refine d_nil (by kernel_rfl) ?_ | refine d_e envOk rfl rfl rfl (step3_plain rfl rfl) ?_ | (show DRun _ _ _ _ (Oper.mk _ (Op.indexAddr _ _ _) _ _ _ (_) :: _) _ _ _; first | refine d_e envOk rfl rfl rfl (step3_idx rfl rfl rfl rfl rfl (by first | omega | ((try simp only [decide_eq_true_eq, decide_eq_false_iff_not, Bool.not_eq_true', Bool.not_true, Bool.not_false, List.length_map, List.length_set, bne_iff_ne, ne_eq, beq_iff_eq, bne_eq_false_iff_eq, beq_eq_false_iff_ne] at *); omega)) (at_mapS (by first | omega | ((try simp only [decide_eq_true_eq, decide_eq_false_iff_not, Bool.not_eq_true', Bool.not_true, Bool.not_false, List.length_map, List.length_set, bne_iff_ne, ne_eq, beq_iff_eq, bne_eq_false_iff_eq, beq_eq_false_iff_ne] at *); omega)))) ?_ | fail) | (show DRun _ _ _ _ (Oper.mk _ (Op.call _) _ _ _ (_) :: _) _ _ _; first | refine d_callD 16 rfl rfl rfl rfl rfl rfl rfl rfl (ih _ (at_mem (by first | omega | ((try simp only [decide_eq_true_eq, decide_eq_false_iff_not, Bool.not_eq_true', Bool.not_true, Bool.not_false, List.length_map, List.length_set, bne_iff_ne, ne_eq, beq_iff_eq, bne_eq_false_iff_eq, beq_eq_false_iff_ne] at *); omega)))) rfl rfl ?_ | fail) | refine d_new envOk 3 rfl rfl rfl rfl rfl rfl ?_ | refine d_store envOk rfl rfl rfl ?_ | fail) | (show Exists _; first | refine Exists.intro ((p.1 + 1, p.2.take p.1 ++ [rowS (renS f t (at_ s.args p.1))])) (Exists.intro (true, false) ⟨?_, ?_, (by first | exact subL_nil | exact (subL_cons rfl subL_nil) | exact (subL_cons rfl (subL_cons rfl subL_nil)) | exact (subL_cons rfl (subL_cons rfl (subL_cons rfl subL_nil))) | exact (subL_cons rfl (subL_cons rfl (subL_cons rfl (subL_cons rfl subL_nil)))) | exact (subL_cons rfl (subL_cons rfl (subL_cons rfl (subL_cons rfl (subL_cons rfl subL_nil))))) | exact (subL_cons rfl (subL_cons rfl (subL_cons rfl (subL_cons rfl (subL_cons rfl (subL_cons rfl subL_nil)))))) | exact (subL_cons rfl (subL_cons rfl (subL_cons rfl (subL_cons rfl (subL_cons rfl (subL_cons rfl (subL_cons rfl subL_nil))))))) | exact (subL_cons rfl (subL_cons rfl (subL_cons rfl (subL_cons rfl (subL_cons rfl (subL_cons rfl (subL_cons rfl (subL_cons rfl subL_nil))))))))), (subL_cons rfl subL_nil), (subL_cons rfl (subL_cons rfl (subL_cons rfl (subL_cons rfl (subL_cons rfl subL_nil)))))⟩) | fail) | fail)
      all_goals first
        | exact ⟨Nat.zero_le _, rfl⟩
        | (have hlt : p.1 < s.args.length := by simpa using h
           exact ⟨hlt, row_more (fun x => rowS (renS f t x)) s.args hr hlt⟩)
        | (have hlt : p.1 < s.args.length := by simpa using h
           show s.args.length - (p.1 + 1) < s.args.length - p.1
           omega)
        | (have hge : s.args.length ≤ p.1 := by simpa using h
           have e : p.2.take p.1 = s.args.map fun x => rowS (renS f t x) := by rw [hr, List.take_of_length_le (by simp; omega), List.take_of_length_le hge]
           show AV.agg [.d (.int .i64 s.op), .d (.str s.name), .d (.int .i64 s.val.kind), .d (.int .i64 s.val.num), .d (.int .i64 s.val.den), .d (.str s.val.str), .d (.sl 7 88 (p.2.take p.1))] = _
           rw [e])
        | trace_state
def zrS : Option Scalar → Scalar
  | some s => s
  | none => .mk 0 [] ⟨0, 0, 0, []⟩ []
def zrL : Option Scalar → D
  | some s => encScalars s.args
  | none => .nil
def rowO (o : Option Scalar) : List D := [.int .i64 (zrS o).op, .str (zrS o).name, .int .i64 (zrS o).val.kind, .int .i64 (zrS o).val.num, .int .i64 (zrS o).val.den, .str (zrS o).val.str, zrL o]
instance : Inhabited (Option Scalar) := ⟨none⟩
def zeroA : AV := .agg [.d (.int .i64 0), .d (.str []), .d (.int .i64 0), .d (.int .i64 0), .d (.int .i64 0), .d (.str []), .d .nil]
def renA (f t : List UInt8) (s : Scalar) : AV := if formF s = 0 then aggS (renS f t s) else zeroA
theorem c76 (f t : List UInt8) (s : Scalar) : CallA Tryz.prog 76 [aggS s, .one (.d (.str f)), .one (.d (.str t))] [] (renA f t s) [] := by
  unfold renA
  by_cases h : formF s = 0
  · have hb : (formF s == 0) = true := by simp [h]
    have hsz := (form_ok h).2
    rw [if_pos h]
    refine enter tabOk Tryz.func76 rfl (by decide +kernel) rfl fun hok w0 σ0 φ0 M => ?_
    clear hok
    repeat' (first | (show OkOps _ _ _ _ _ _; first | refine okops_nil ?_ | refine s_plain tabOk rfl rfl rfl rfl rfl ?_ | (show OkOps _ _ _ (Oper.mk _ (Op.call _) _ _ _ (_) :: _) _ _; first | refine s_callF rfl rfl rfl rfl rfl rfl rfl rfl (c77 _) rfl ?_ | refine s_callD 16 rfl rfl rfl rfl rfl rfl rfl rfl (c168 _ _ _ (by omega)) rfl rfl rfl ?_ | fail) | (show OkOps _ _ _ (Oper.mk _ (Op.box _ _) _ _ _ (_) :: _) _ _; first | refine s_box 0 rfl rfl rfl rfl rfl rfl ?_ | fail) | (show OkOps _ _ _ (Oper.mk _ (Op.alloc _) _ _ _ (_) :: _) _ _; first | refine s_alloc tabOk 1 rfl rfl rfl rfl rfl ?_ | fail) | refine s_store envOk rfl rfl rfl ?_ | fail) | (show OkC _ _ _ _ _; first | refine ok_seq ?_ | refine ok_region ?_ | refine ok_skip ?_ | refine ok_ret ?_ | refine ok_cond rfl (fun h => ?_) (fun h => ?_) | fail) | (show thenQ _ _ _ _; first | refine then_n ?_ | refine then_r ?_ | fail) | (show RetQ _ _ _ _ _ _; first | refine ret_leaf (.inl rfl) rfl rfl ?_ | fail) | fail)
    all_goals first
      | rfl
      | (exfalso; simp_all; done)
      | trace_state
  · have hb : (formF s == 0) = false := by simp [h]
    rw [if_neg h]
    refine enter tabOk Tryz.func76 rfl (by decide +kernel) rfl fun hok w0 σ0 φ0 M => ?_
    clear hok
    repeat' (first | (show OkOps _ _ _ _ _ _; first | refine okops_nil ?_ | refine s_plain tabOk rfl rfl rfl rfl rfl ?_ | (show OkOps _ _ _ (Oper.mk _ (Op.call _) _ _ _ (_) :: _) _ _; first | refine s_callF rfl rfl rfl rfl rfl rfl rfl rfl (c77 _) rfl ?_ | fail) | (show OkOps _ _ _ (Oper.mk _ (Op.box _ _) _ _ _ (_) :: _) _ _; first | refine s_box 0 rfl rfl rfl rfl rfl rfl ?_ | fail) | (show OkOps _ _ _ (Oper.mk _ (Op.alloc _) _ _ _ (_) :: _) _ _; first | refine s_alloc tabOk 1 rfl rfl rfl rfl rfl ?_ | fail) | refine s_store envOk rfl rfl rfl ?_ | fail) | (show OkC _ _ _ _ _; first | refine ok_seq ?_ | refine ok_region ?_ | refine ok_skip ?_ | refine ok_ret ?_ | refine ok_cond rfl (fun h => ?_) (fun h => ?_) | fail) | (show thenQ _ _ _ _; first | refine then_n ?_ | refine then_r ?_ | fail) | (show RetQ _ _ _ _ _ _; first | refine ret_leaf (.inl rfl) rfl rfl ?_ | fail) | fail)
    all_goals first
      | rfl
      | (exfalso; simp_all; done)
      | trace_state
set_option maxHeartbeats 4000000 in
theorem c167 (f t : List UInt8) (s : Scalar) : (postL s).length ≤ 64 → CallA Tryz.prog 167 [aggS s, .one (.d (.str f)), .one (.d (.str t))] [] (aggS (renS f t s)) [] := by
  induction s using Scalar.ind with
  | h s ih =>
    intro hsz
    obtain ⟨hl, hx⟩ := post_args (s := s)
    replace ih := fun x hm => ih x hm (Nat.le_trans (hx x hm) hsz)
    rw [aggS_ren]
    refine enter tabOk Tryz.func167 rfl (by decide +kernel) rfl fun hok w0 σ0 φ0 M => ?_
    clear hok
    have hlen : s.args.length ≤ 64 := by omega
    have hsp : (namedF s = true ∧ (s.name == f) = true) ∨ (namedF s = true ∧ (s.name == f) = false ∨ namedF s = false) := by cases namedF s <;> cases s.name == f <;> simp
    rcases hsp with ⟨hn, hm⟩ | hsp
    · simp only [hn, hm, Bool.and_self, if_true]
      repeat' (first | (show OkOps _ _ _ _ _ _; first | (show OkOps _ _ _ (Oper.mk _ (Op.makeSlice _ _ _) _ _ _ (_) :: _) _ _; first | refine s_new envOk 10 rfl rfl rfl (step3_makeSlice (n := s.args.length) rfl rfl rfl rfl rfl (by simp) (by simp) (by omega) (Nat.le_of_ble_eq_true rfl)) rfl rfl ?_ | fail) | refine okops_nil ?_ | refine s_plain tabOk rfl rfl rfl rfl rfl ?_ | (show OkOps _ _ _ (Oper.mk _ (_) _ _ _ (some _) :: _) _ _; first | refine s_guard rfl rfl (by first | assumption | rfl) ?_ | fail) | (show OkOps _ _ _ (Oper.mk _ (Op.binOp .add _ _ _ _) _ _ _ (_) :: _) _ _; first | refine s_e envOk rfl rfl rfl (step3_add rfl rfl rfl rfl (wrap64 (by omega) (by omega))) ?_ | fail) | (show OkOps _ _ _ (Oper.mk _ (Op.pick _ _ _) _ _ _ (_) :: _) _ _; first | refine s_e envOk rfl rfl rfl (step3_pickT rfl rfl (by first | rfl | assumption) rfl) ?_ | fail) | (show OkOps _ _ _ (Oper.mk _ (Op.indexAddr _ _ _) _ _ _ (_) :: _) _ _; first | refine s_e envOk rfl rfl rfl (step3_idxOwn rfl rfl rfl rfl rfl rfl (by first | omega | ((try simp only [decide_eq_true_eq, decide_eq_false_iff_not, Bool.not_eq_true', Bool.not_true, Bool.not_false, List.length_map, List.length_set, bne_iff_ne, ne_eq, beq_iff_eq, bne_eq_false_iff_eq, beq_eq_false_iff_ne] at *); omega)) (by first | omega | ((try simp only [decide_eq_true_eq, decide_eq_false_iff_not, Bool.not_eq_true', Bool.not_true, Bool.not_false, List.length_map, List.length_set, bne_iff_ne, ne_eq, beq_iff_eq, bne_eq_false_iff_eq, beq_eq_false_iff_ne] at *); omega))) ?_ | refine s_e envOk rfl rfl rfl (step3_idx rfl rfl rfl rfl rfl (by first | omega | ((try simp only [decide_eq_true_eq, decide_eq_false_iff_not, Bool.not_eq_true', Bool.not_true, Bool.not_false, List.length_map, List.length_set, bne_iff_ne, ne_eq, beq_iff_eq, bne_eq_false_iff_eq, beq_eq_false_iff_ne] at *); omega)) (at_mapS (by first | omega | ((try simp only [decide_eq_true_eq, decide_eq_false_iff_not, Bool.not_eq_true', Bool.not_true, Bool.not_false, List.length_map, List.length_set, bne_iff_ne, ne_eq, beq_iff_eq, bne_eq_false_iff_eq, beq_eq_false_iff_ne] at *); omega)))) ?_ | fail) | (show OkOps _ _ _ (Oper.mk _ (Op.call _) _ _ _ (_) :: _) _ _; first | refine s_callF rfl rfl rfl rfl rfl rfl rfl rfl (c163 _) rfl ?_ | refine s_callD 16 rfl rfl rfl rfl rfl rfl rfl rfl (ih _ (at_mem (by first | omega | ((try simp only [decide_eq_true_eq, decide_eq_false_iff_not, Bool.not_eq_true', Bool.not_true, Bool.not_false, List.length_map, List.length_set, bne_iff_ne, ne_eq, beq_iff_eq, bne_eq_false_iff_eq, beq_eq_false_iff_ne] at *); omega)))) rfl rfl rfl ?_ | fail) | (show OkOps _ _ _ (Oper.mk _ (Op.box _ _) _ _ _ (_) :: _) _ _; first | refine s_box 0 rfl rfl rfl rfl rfl rfl ?_ | fail) | (show OkOps _ _ _ (Oper.mk _ (Op.alloc _) _ _ _ (_) :: _) _ _; first | refine s_alloc tabOk 1 rfl rfl rfl rfl rfl ?_ | refine s_alloc tabOk 2 rfl rfl rfl rfl rfl ?_ | fail) | refine s_store envOk rfl rfl (step3_storeRow rfl rfl rfl rfl rfl rfl rfl rfl rfl (row_get (by assumption) (by first | omega | ((try simp only [decide_eq_true_eq, decide_eq_false_iff_not, Bool.not_eq_true', Bool.not_true, Bool.not_false, List.length_map, List.length_set, bne_iff_ne, ne_eq, beq_iff_eq, bne_eq_false_iff_eq, beq_eq_false_iff_ne] at *); omega))) rfl) ?_ | refine s_store envOk rfl rfl rfl ?_ | fail) | (show OkC _ _ _ _ _; first | refine okc_imp (imp_sealL (dl := [10]) rfl) (ok_ret ?_) | refine ok_seq ?_ | refine ok_region ?_ | refine ok_block ?_ | refine ok_skip ?_ | refine ok_exit ?_ | refine ok_condKT rfl (by assumption) ?_ | refine ok_cond rfl (fun h => ?_) (fun h => ?_) | refine s_loopM 5 rfl [(1, _), (2, _), (3, _), (6, _), (7, _), (25, _), (26, _)] (subL_cons rfl (subL_cons rfl (subL_cons rfl (subL_cons rfl (subL_cons rfl (subL_cons rfl (subL_cons rfl subL_nil))))))) (fun (p : Nat × List (Option Scalar) × List (List D)) => [(27, .one (.d (.int .i64 (p.1 : Int))))]) (fun (p : Nat × List (Option Scalar) × List (List D)) => [(10, .row 7 88 p.2.2), (0, .box [.d (.int .i64 s.op), .d (.str t), .d (.int .i64 s.val.kind), .d (.int .i64 s.val.num), .d (.int .i64 s.val.den), .d (.str s.val.str), .d (encScalars s.args)]), (1, .box [.d (.int .i64 0), .d (.str []), .d (.int .i64 0), .d (.int .i64 0), .d (.int .i64 0), .d (.str []), .d .nil])]) (fun (p : Nat × List (Option Scalar) × List (List D)) => p.1 ≤ s.args.length ∧ p.2.2 = p.2.1.map rowO ∧ p.2.2.length = s.args.length ∧ p.2.1 = mixR (s.args.map fun x => some (renS f t x)) none p.1) (fun (p : Nat × List (Option Scalar) × List (List D)) => s.args.length - p.1) (0, List.replicate s.args.length none, List.replicate s.args.length [.int .i64 0, .str [], .int .i64 0, .int .i64 0, .int .i64 0, .str [], .nil]) (subL_cons rfl subL_nil) (by first | exact subL_nil | exact (subL_cons rfl subL_nil) | exact (subL_cons rfl (subL_cons rfl subL_nil)) | exact (subL_cons rfl (subL_cons rfl (subL_cons rfl subL_nil))) | exact (subL_cons rfl (subL_cons rfl (subL_cons rfl (subL_cons rfl subL_nil)))) | exact (subL_cons rfl (subL_cons rfl (subL_cons rfl (subL_cons rfl (subL_cons rfl subL_nil))))) | exact (subL_cons rfl (subL_cons rfl (subL_cons rfl (subL_cons rfl (subL_cons rfl (subL_cons rfl subL_nil)))))) | exact (subL_cons rfl (subL_cons rfl (subL_cons rfl (subL_cons rfl (subL_cons rfl (subL_cons rfl (subL_cons rfl subL_nil))))))) | exact (subL_cons rfl (subL_cons rfl (subL_cons rfl (subL_cons rfl (subL_cons rfl (subL_cons rfl (subL_cons rfl (subL_cons rfl subL_nil))))))))) ?_ (fun p ⟨hk, hr, hl2, hx2⟩ => ?_) | fail) | (show thenQ _ _ _ _; first | refine then_n ?_ | refine then_x ?_ | fail) | (show blockQ _ _ _ _; first | refine block_n ?_ | refine block_x rfl ?_ | fail) | (show RetQ _ _ _ _ _ _; first | refine ret_leaf (.inl rfl) rfl rfl ?_ | fail) | (show Exists _; first | refine Exists.intro ((p.1 + 1, p.2.1.set p.1 (some (renS f t (at_ s.args p.1))), p.2.2.set p.1 (rowS (renS f t (at_ s.args p.1))))) ⟨?_, ?_, (by first | exact subL_nil | exact (subL_cons rfl subL_nil) | exact (subL_cons rfl (subL_cons rfl subL_nil)) | exact (subL_cons rfl (subL_cons rfl (subL_cons rfl subL_nil))) | exact (subL_cons rfl (subL_cons rfl (subL_cons rfl (subL_cons rfl subL_nil)))) | exact (subL_cons rfl (subL_cons rfl (subL_cons rfl (subL_cons rfl (subL_cons rfl subL_nil))))) | exact (subL_cons rfl (subL_cons rfl (subL_cons rfl (subL_cons rfl (subL_cons rfl (subL_cons rfl subL_nil)))))) | exact (subL_cons rfl (subL_cons rfl (subL_cons rfl (subL_cons rfl (subL_cons rfl (subL_cons rfl (subL_cons rfl subL_nil))))))) | exact (subL_cons rfl (subL_cons rfl (subL_cons rfl (subL_cons rfl (subL_cons rfl (subL_cons rfl (subL_cons rfl (subL_cons rfl subL_nil))))))))), (subL_cons rfl subL_nil), (subL_cons rfl (subL_cons rfl (subL_cons rfl (subL_cons rfl (subL_cons rfl (subL_cons rfl (subL_cons rfl subL_nil)))))))⟩ | fail) | fail)
      all_goals first
        | exact ⟨Nat.zero_le _, by simp [rowO, zrS, zrL, Scalar.op, Scalar.name, Scalar.val], by simp, by rw [mixR_zero]; simp⟩
        | (have hlt : p.1 < s.args.length := by simpa using h
           refine ⟨hlt, ?_, by simp [hl2], ?_⟩
           · show p.2.2.set p.1 (rowO (some _)) = List.map rowO (p.2.1.set p.1 _)
             rw [hr, List.map_set]
           · show p.2.1.set p.1 _ = mixR _ _ (p.1 + 1)
             rw [hx2, ← mixR_next (by simpa using hlt)]
             simp [at_, hlt])
        | (have hlt : p.1 < s.args.length := by simpa using h
           show s.args.length - (p.1 + 1) < s.args.length - p.1
           omega)
        | (have hge : s.args.length ≤ p.1 := by simpa using h
           have e : p.2.2.take s.args.length = s.args.map fun x => rowS (renS f t x) := by
             rw [List.take_of_length_le (by omega), hr, hx2, show p.1 = (s.args.map fun x => some (renS f t x)).length by simp; omega, mixR_all, List.map_map]; rfl
           show AV.agg [.d (.int .i64 s.op), .d (.str t), .d (.int .i64 s.val.kind), .d (.int .i64 s.val.num), .d (.int .i64 s.val.den), .d (.str s.val.str), .d (.sl 7 88 (p.2.2.take s.args.length))] = _
           rw [e])
        | trace_state
    · have hc : (namedF s && s.name == f) = false := by rcases hsp with ⟨h1, h2⟩ | h1 <;> simp [*]
      simp only [hc, if_false, Bool.false_eq_true]
      rcases hsp with ⟨hn, hm⟩ | hn
      repeat' (first | (show OkOps _ _ _ _ _ _; first | (show OkOps _ _ _ (Oper.mk _ (Op.makeSlice _ _ _) _ _ _ (_) :: _) _ _; first | refine s_new envOk 10 rfl rfl rfl (step3_makeSlice (n := s.args.length) rfl rfl rfl rfl rfl (by simp) (by simp) (by omega) (Nat.le_of_ble_eq_true rfl)) rfl rfl ?_ | fail) | refine okops_nil ?_ | refine s_plain tabOk rfl rfl rfl rfl rfl ?_ | (show OkOps _ _ _ (Oper.mk _ (_) _ _ _ (some _) :: _) _ _; first | refine s_guard rfl rfl (by first | assumption | rfl) ?_ | refine s_out rfl rfl (by first | assumption | rfl) rfl rfl ?_ | fail) | (show OkOps _ _ _ (Oper.mk _ (Op.binOp .add _ _ _ _) _ _ _ (_) :: _) _ _; first | refine s_e envOk rfl rfl rfl (step3_add rfl rfl rfl rfl (wrap64 (by omega) (by omega))) ?_ | fail) | (show OkOps _ _ _ (Oper.mk _ (Op.pick _ _ _) _ _ _ (_) :: _) _ _; first | refine s_e envOk rfl rfl rfl (step3_pickT rfl rfl (by first | rfl | assumption) rfl) ?_ | refine s_e envOk rfl rfl rfl (step3_pickF rfl rfl (by first | rfl | assumption) rfl) ?_ | fail) | (show OkOps _ _ _ (Oper.mk _ (Op.indexAddr _ _ _) _ _ _ (_) :: _) _ _; first | refine s_e envOk rfl rfl rfl (step3_idxOwn rfl rfl rfl rfl rfl rfl (by first | omega | ((try simp only [decide_eq_true_eq, decide_eq_false_iff_not, Bool.not_eq_true', Bool.not_true, Bool.not_false, List.length_map, List.length_set, bne_iff_ne, ne_eq, beq_iff_eq, bne_eq_false_iff_eq, beq_eq_false_iff_ne] at *); omega)) (by first | omega | ((try simp only [decide_eq_true_eq, decide_eq_false_iff_not, Bool.not_eq_true', Bool.not_true, Bool.not_false, List.length_map, List.length_set, bne_iff_ne, ne_eq, beq_iff_eq, bne_eq_false_iff_eq, beq_eq_false_iff_ne] at *); omega))) ?_ | refine s_e envOk rfl rfl rfl (step3_idx rfl rfl rfl rfl rfl (by first | omega | ((try simp only [decide_eq_true_eq, decide_eq_false_iff_not, Bool.not_eq_true', Bool.not_true, Bool.not_false, List.length_map, List.length_set, bne_iff_ne, ne_eq, beq_iff_eq, bne_eq_false_iff_eq, beq_eq_false_iff_ne] at *); omega)) (at_mapS (by first | omega | ((try simp only [decide_eq_true_eq, decide_eq_false_iff_not, Bool.not_eq_true', Bool.not_true, Bool.not_false, List.length_map, List.length_set, bne_iff_ne, ne_eq, beq_iff_eq, bne_eq_false_iff_eq, beq_eq_false_iff_ne] at *); omega)))) ?_ | fail) | (show OkOps _ _ _ (Oper.mk _ (Op.call _) _ _ _ (_) :: _) _ _; first | refine s_callF rfl rfl rfl rfl rfl rfl rfl rfl (c163 _) rfl ?_ | refine s_callD 16 rfl rfl rfl rfl rfl rfl rfl rfl (ih _ (at_mem (by first | omega | ((try simp only [decide_eq_true_eq, decide_eq_false_iff_not, Bool.not_eq_true', Bool.not_true, Bool.not_false, List.length_map, List.length_set, bne_iff_ne, ne_eq, beq_iff_eq, bne_eq_false_iff_eq, beq_eq_false_iff_ne] at *); omega)))) rfl rfl rfl ?_ | fail) | (show OkOps _ _ _ (Oper.mk _ (Op.box _ _) _ _ _ (_) :: _) _ _; first | refine s_box 0 rfl rfl rfl rfl rfl rfl ?_ | fail) | (show OkOps _ _ _ (Oper.mk _ (Op.alloc _) _ _ _ (_) :: _) _ _; first | refine s_alloc tabOk 1 rfl rfl rfl rfl rfl ?_ | refine s_alloc tabOk 2 rfl rfl rfl rfl rfl ?_ | fail) | refine s_store envOk rfl rfl (step3_storeRow rfl rfl rfl rfl rfl rfl rfl rfl rfl (row_get (by assumption) (by first | omega | ((try simp only [decide_eq_true_eq, decide_eq_false_iff_not, Bool.not_eq_true', Bool.not_true, Bool.not_false, List.length_map, List.length_set, bne_iff_ne, ne_eq, beq_iff_eq, bne_eq_false_iff_eq, beq_eq_false_iff_ne] at *); omega))) rfl) ?_ | refine s_store envOk rfl rfl rfl ?_ | fail) | (show OkC _ _ _ _ _; first | refine okc_imp (imp_sealL (dl := [10]) rfl) (ok_ret ?_) | refine ok_seq ?_ | refine ok_region ?_ | refine ok_block ?_ | refine ok_skip ?_ | refine ok_exit ?_ | refine ok_condF rfl ?_ | refine ok_condKF rfl (by assumption) ?_ | refine ok_cond rfl (fun h => ?_) (fun h => ?_) | refine s_loopM 5 rfl [(1, _), (2, _), (3, _), (6, _), (7, _), (25, _), (26, _)] (subL_cons rfl (subL_cons rfl (subL_cons rfl (subL_cons rfl (subL_cons rfl (subL_cons rfl (subL_cons rfl subL_nil))))))) (fun (p : Nat × List (Option Scalar) × List (List D)) => [(27, .one (.d (.int .i64 (p.1 : Int))))]) (fun (p : Nat × List (Option Scalar) × List (List D)) => [(10, .row 7 88 p.2.2), (0, .box [.d (.int .i64 s.op), .d (.str s.name), .d (.int .i64 s.val.kind), .d (.int .i64 s.val.num), .d (.int .i64 s.val.den), .d (.str s.val.str), .d (encScalars s.args)]), (1, .box [.d (.int .i64 0), .d (.str []), .d (.int .i64 0), .d (.int .i64 0), .d (.int .i64 0), .d (.str []), .d .nil])]) (fun (p : Nat × List (Option Scalar) × List (List D)) => p.1 ≤ s.args.length ∧ p.2.2 = p.2.1.map rowO ∧ p.2.2.length = s.args.length ∧ p.2.1 = mixR (s.args.map fun x => some (renS f t x)) none p.1) (fun (p : Nat × List (Option Scalar) × List (List D)) => s.args.length - p.1) (0, List.replicate s.args.length none, List.replicate s.args.length [.int .i64 0, .str [], .int .i64 0, .int .i64 0, .int .i64 0, .str [], .nil]) (subL_cons rfl subL_nil) (by first | exact subL_nil | exact (subL_cons rfl subL_nil) | exact (subL_cons rfl (subL_cons rfl subL_nil)) | exact (subL_cons rfl (subL_cons rfl (subL_cons rfl subL_nil))) | exact (subL_cons rfl (subL_cons rfl (subL_cons rfl (subL_cons rfl subL_nil)))) | exact (subL_cons rfl (subL_cons rfl (subL_cons rfl (subL_cons rfl (subL_cons rfl subL_nil))))) | exact (subL_cons rfl (subL_cons rfl (subL_cons rfl (subL_cons rfl (subL_cons rfl (subL_cons rfl subL_nil)))))) | exact (subL_cons rfl (subL_cons rfl (subL_cons rfl (subL_cons rfl (subL_cons rfl (subL_cons rfl (subL_cons rfl subL_nil))))))) | exact (subL_cons rfl (subL_cons rfl (subL_cons rfl (subL_cons rfl (subL_cons rfl (subL_cons rfl (subL_cons rfl (subL_cons rfl subL_nil))))))))) ?_ (fun p ⟨hk, hr, hl2, hx2⟩ => ?_) | fail) | (show thenQ _ _ _ _; first | refine then_n ?_ | refine then_x ?_ | fail) | (show blockQ _ _ _ _; first | refine block_n ?_ | refine block_x rfl ?_ | fail) | (show RetQ _ _ _ _ _ _; first | refine ret_leaf (.inl rfl) rfl rfl ?_ | fail) | (show Exists _; first | refine Exists.intro ((p.1 + 1, p.2.1.set p.1 (some (renS f t (at_ s.args p.1))), p.2.2.set p.1 (rowS (renS f t (at_ s.args p.1))))) ⟨?_, ?_, (by first | exact subL_nil | exact (subL_cons rfl subL_nil) | exact (subL_cons rfl (subL_cons rfl subL_nil)) | exact (subL_cons rfl (subL_cons rfl (subL_cons rfl subL_nil))) | exact (subL_cons rfl (subL_cons rfl (subL_cons rfl (subL_cons rfl subL_nil)))) | exact (subL_cons rfl (subL_cons rfl (subL_cons rfl (subL_cons rfl (subL_cons rfl subL_nil))))) | exact (subL_cons rfl (subL_cons rfl (subL_cons rfl (subL_cons rfl (subL_cons rfl (subL_cons rfl subL_nil)))))) | exact (subL_cons rfl (subL_cons rfl (subL_cons rfl (subL_cons rfl (subL_cons rfl (subL_cons rfl (subL_cons rfl subL_nil))))))) | exact (subL_cons rfl (subL_cons rfl (subL_cons rfl (subL_cons rfl (subL_cons rfl (subL_cons rfl (subL_cons rfl (subL_cons rfl subL_nil))))))))), (subL_cons rfl subL_nil), (subL_cons rfl (subL_cons rfl (subL_cons rfl (subL_cons rfl (subL_cons rfl (subL_cons rfl (subL_cons rfl subL_nil)))))))⟩ | fail) | fail)
      all_goals first
        | exact ⟨Nat.zero_le _, by simp [rowO, zrS, zrL, Scalar.op, Scalar.name, Scalar.val], by simp, by rw [mixR_zero]; simp⟩
        | (have hlt : p.1 < s.args.length := by simpa using h
           refine ⟨hlt, ?_, by simp [hl2], ?_⟩
           · show p.2.2.set p.1 (rowO (some _)) = List.map rowO (p.2.1.set p.1 _)
             rw [hr, List.map_set]
           · show p.2.1.set p.1 _ = mixR _ _ (p.1 + 1)
             rw [hx2, ← mixR_next (by simpa using hlt)]
             simp [at_, hlt])
        | (have hlt : p.1 < s.args.length := by simpa using h
           show s.args.length - (p.1 + 1) < s.args.length - p.1
           omega)
        | (have hge : s.args.length ≤ p.1 := by simpa using h
           have e : p.2.2.take s.args.length = s.args.map fun x => rowS (renS f t x) := by
             rw [List.take_of_length_le (by omega), hr, hx2, show p.1 = (s.args.map fun x => some (renS f t x)).length by simp; omega, mixR_all, List.map_map]; rfl
           show AV.agg [.d (.int .i64 s.op), .d (.str s.name), .d (.int .i64 s.val.kind), .d (.int .i64 s.val.num), .d (.int .i64 s.val.den), .d (.str s.val.str), .d (.sl 7 88 (p.2.2.take s.args.length))] = _
           rw [e])
        | trace_state
theorem c75 (f t : List UInt8) (s : Scalar) : CallA Tryz.prog 75 [aggS s, .one (.d (.str f)), .one (.d (.str t))] [] (renA f t s) [] := by
  unfold renA
  by_cases h : formF s = 0
  · have hb : (formF s != 0) = false := by simp [h]
    have hsz := (form_ok h).2
    rw [if_pos h]
    refine enter tabOk Tryz.func75 rfl (by decide +kernel) rfl fun hok w0 σ0 φ0 M => ?_
    clear hok
    repeat' (first | (show OkOps _ _ _ _ _ _; first | refine okops_nil ?_ | refine s_plain tabOk rfl rfl rfl rfl rfl ?_ | (show OkOps _ _ _ (Oper.mk _ (Op.call _) _ _ _ (_) :: _) _ _; first | refine s_callF rfl rfl rfl rfl rfl rfl rfl rfl (c87 _) rfl ?_ | refine s_callD 16 rfl rfl rfl rfl rfl rfl rfl rfl (c167 _ _ _ (by omega)) rfl rfl rfl ?_ | fail) | (show OkOps _ _ _ (Oper.mk _ (Op.box _ _) _ _ _ (_) :: _) _ _; first | refine s_box 0 rfl rfl rfl rfl rfl rfl ?_ | fail) | (show OkOps _ _ _ (Oper.mk _ (Op.alloc _) _ _ _ (_) :: _) _ _; first | refine s_alloc tabOk 1 rfl rfl rfl rfl rfl ?_ | fail) | refine s_store envOk rfl rfl rfl ?_ | fail) | (show OkC _ _ _ _ _; first | refine ok_seq ?_ | refine ok_region ?_ | refine ok_skip ?_ | refine ok_ret ?_ | refine ok_condKF rfl (by assumption) ?_ | fail) | (show thenQ _ _ _ _; first | refine then_n ?_ | fail) | (show RetQ _ _ _ _ _ _; first | refine ret_leaf (.inl rfl) rfl rfl ?_ | fail) | fail)
    all_goals first
      | rfl
      | (exfalso; simp_all; done)
      | trace_state
  · have hb : (formF s != 0) = true := by simp [h]
    rw [if_neg h]
    refine enter tabOk Tryz.func75 rfl (by decide +kernel) rfl fun hok w0 σ0 φ0 M => ?_
    clear hok
    repeat' (first | (show OkOps _ _ _ _ _ _; first | refine okops_nil ?_ | refine s_plain tabOk rfl rfl rfl rfl rfl ?_ | (show OkOps _ _ _ (Oper.mk _ (Op.call _) _ _ _ (_) :: _) _ _; first | refine s_callF rfl rfl rfl rfl rfl rfl rfl rfl (c87 _) rfl ?_ | fail) | (show OkOps _ _ _ (Oper.mk _ (Op.box _ _) _ _ _ (_) :: _) _ _; first | refine s_box 0 rfl rfl rfl rfl rfl rfl ?_ | fail) | (show OkOps _ _ _ (Oper.mk _ (Op.alloc _) _ _ _ (_) :: _) _ _; first | refine s_alloc tabOk 1 rfl rfl rfl rfl rfl ?_ | fail) | refine s_store envOk rfl rfl rfl ?_ | fail) | (show OkC _ _ _ _ _; first | refine ok_seq ?_ | refine ok_region ?_ | refine ok_ret ?_ | refine ok_condKT rfl (by assumption) ?_ | fail) | (show thenQ _ _ _ _; first | refine then_n ?_ | refine then_r ?_ | fail) | (show RetQ _ _ _ _ _ _; first | refine ret_leaf (.inl rfl) rfl rfl ?_ | fail) | fail)
    all_goals first
      | rfl
      | (exfalso; simp_all; done)
      | trace_state
end Go.Proofs.YtpejdgkaapnekaaGreat
namespace Go.Abs
open Go
variable {P : Program} {V : Env} {T : Tab} {c : Ctx} {w0 : World} {σ0 : Sig} {φ0 : Pl} {M : Nat → Prop} {n : Nat} {rd : Option Nat} {mk : List Deferred} {ops : Array Oper} {o : Oper} {rest : List Oper} {fr : List (Nat × AV)} {sto : Sto} {K : St → Prop} {st st0 : St} {acc : List Tr}
variable {σ σ' : Sig} {φ φ' : Pl} {w w' : World}
theorem Rel.callV (id : Nat) {o1 s s' : Sto} {a : Act} {rav : AV} {v : Value} {dst : Option Nat} (hr : Rel c ⟨fr, o1 ++ s⟩ a w σ φ) (hd : dstOk c.n dst = true) (ho : (keysLt 1000000 o1 && stoClean o1 && frClean (purFr id fr)) = true) (hs : bigS s) (hs' : bigS s') (hin' : stoIn s' s' = true)
    (hlp : look s 1000000 = none) (hlp' : look s' 1000000 = none) (hfl : avIn s' rav = true) (hret : RetP rav s' w σ φ (MOf φ s) v w' σ' φ') : Rel c ⟨putO dst rav (purFr id fr), o1 ++ s'⟩ (a.put dst v) w' σ' (fun i => if 1000000 ≤ i then φ' i else φ i) := by
  simp only [Bool.and_eq_true] at ho
  obtain ⟨⟨ho, hoc⟩, hfc⟩ := ho
  have hpin : ∀ i, 1000000 ≤ i → (fun i => if 1000000 ≤ i then φ' i else φ i) i = φ' i := fun i hi => by simp [hi]
  have hsm : ∀ i : Nat, i < 1000000 → (fun i => if 1000000 ≤ i then φ' i else φ i) i = φ i := by
    intro i hi
    have h9 : ¬ 1000000 ≤ i := by omega
    simp [h9]
  generalize hφ : (fun i => if 1000000 ≤ i then φ' i else φ i) = φn at hpin hsm ⊢
  have hold : ∀ {i e}, look s i = some e → look (o1 ++ s) i = some e := fun {i e} hi => by rw [look_big ho (hs _ _ hi)]; exact hi
  have hownl : ∀ {i e}, look o1 i = some e → look (o1 ++ s) i = some e := fun {i e} hi => by rw [look_small hs (keysLt_look ho hi)]; exact hi
  have hM : ∀ b, MOf φ s b → ∃ i e p, look (o1 ++ s) i = some e ∧ 1000000 ≤ i ∧ φ i = some p ∧ p.1 = b := by
    rintro b ⟨i, e, p, h1, h2, h3⟩
    exact ⟨i, e, p, hold h1, hs _ _ h1, h2, h3⟩
  have hsplit : ∀ {i e}, look (o1 ++ s') i = some e → (i < 1000000 ∧ look o1 i = some e) ∨ (1000000 ≤ i ∧ look s' i = some e) := by
    intro i e hi
    rcases Nat.lt_or_ge i 1000000 with h | h
    · exact .inl ⟨h, by rwa [look_small hs' h] at hi⟩
    · exact .inr ⟨h, by rwa [look_big ho h] at hi⟩
  have hE : Ext (fun i => 1000000 < i) φ φn (o1 ++ s) (o1 ++ s') := by
    intro i hi
    rcases Nat.lt_or_ge i 1000000 with h | h
    · rw [look_small hs' h, look_small hs h]
      cases hl : look o1 i with
      | none => exact .inl rfl
      | some e => exact .inr ⟨e, rfl, hsm i h, e, rfl, compat.refl _⟩
    · have : i = 1000000 := by omega
      subst this
      exact .inl (by rw [look_big ho (Nat.le_refl _)]; exact hlp')
  have hnot : ∀ {i e p}, look o1 i = some e → φ i = some p → ¬ MOf φ s p.1 := by
    intro i e p hi hp hm
    obtain ⟨j, e', q, h1, h2, h3, h4⟩ := hM _ hm
    exact hr.inv.inj _ _ _ _ _ _ (hownl hi) h1 (by have := keysLt_look ho hi; omega) hp h3 h4.symm
  have hinv : HInv σ' φn (o1 ++ s') w' := by
    refine ⟨hret.inv.sig, fun i e hi => ?_, fun i i' e e' p p' hi hi' hne hp hp' => ?_⟩
    · rcases hsplit hi with ⟨h1, h2⟩ | ⟨h1, h2⟩
      · have hob := hr.inv.obj _ _ (hownl h2)
        refine hob.ext hret.le hE (fun j hj => stoClean_men hoc h2 j hj) (hsm i h1) fun B cc hB => ?_
        have hlt := hob.lt hB
        have hn := hnot h2 hB
        refine ⟨hret.kept.block B hlt hn, ?_⟩
        have hn0 : σ B = none := by
          cases e with
          | box cs => obtain ⟨_, _, _, _, q1, _, _, q4⟩ := hob; rw [hB] at q1; cases q1; exact q4
          | row k b xs =>
            rcases hob with ⟨_, q⟩ | ⟨_, _, _, _, _, q1, _, _, _, _, _, _, _, _, q4⟩
            · rw [hB] at q; cases q
            · rw [hB] at q1; cases q1; exact q4
          | map kg vg es => obtain ⟨_, _, _, q1, _, _, q4⟩ := hob; rw [hB] at q1; cases q1; exact q4
          | loop li fr st p => obtain ⟨_, _, _, q1, _, _, _, q4⟩ := hob; rw [hB] at q1; cases q1; exact q4
        rw [hn0]
        cases hσ : σ' B with
        | none => rfl
        | some x =>
          rcases hret.fresh B (by rw [hσ]; simp) with q | q | q
          · exact absurd hn0 q
          · exact absurd hlt (by simp only at q ⊢; omega)
          · exact absurd q hn
      · refine ObjRep.mv (s := s') (fun j hj => ?_) (hpin i h1) (hret.inv.obj _ _ h2)
        obtain ⟨e2, he2⟩ := hasK_look (aoIn_men (stoIn_look hin' h2) j hj)
        have hj2 := hs' _ _ he2
        exact ⟨look_big ho hj2, hpin j hj2⟩
    · rcases hsplit hi with ⟨h1, h2⟩ | ⟨h1, h2⟩ <;> rcases hsplit hi' with ⟨h3, h4⟩ | ⟨h3, h4⟩
      · rw [hsm i h1] at hp; rw [hsm i' h3] at hp'; exact hr.inv.inj _ _ _ _ _ _ (hownl h2) (hownl h4) hne hp hp'
      · rw [hsm i h1] at hp; rw [hpin i' h3] at hp'
        rcases hret.mine _ _ _ h4 hp' with q | q
        · have := (hr.inv.obj _ _ (hownl h2)).lt hp; omega
        · intro e0; exact hnot h2 hp (e0 ▸ q)
      · rw [hpin i h1] at hp; rw [hsm i' h3] at hp'
        rcases hret.mine _ _ _ h2 hp with q | q
        · have := (hr.inv.obj _ _ (hownl h4)).lt hp'; omega
        · intro e0; exact hnot h4 hp' (e0 ▸ q)
      · rw [hpin i h1] at hp; rw [hpin i' h3] at hp'; exact hret.inv.inj _ _ _ _ _ _ h2 h4 hne hp hp'
  have hMc : ∀ {b}, MOf φ s b → c.w0.heap.size ≤ b ∨ c.M b := by
    intro b hb
    obtain ⟨j, e', q, h1, h2, h3, rfl⟩ := hM _ hb
    exact hr.mine _ _ _ h1 h3
  refine hr.putTo (st' := ⟨purFr id fr, o1 ++ s'⟩) hd (Sig.le_trans hr.le hret.le) (fun b hb => ?_) hinv (fun i e p hi hp => ?_) ⟨hret.kept.os.trans hr.fra.os, hret.kept.tape.trans hr.fra.tape, hret.kept.output.trans hr.fra.output, Nat.le_trans hr.fra.size hret.kept.size, Nat.le_trans hr.fra.drawn hret.kept.drawn, fun b hb hM' => ?_⟩ (fun i hi => (hpin i hi.1).trans ((hret.pin i hi).trans (hr.pin i hi)))
    (fun _ => RepV.mv (fun j hj => ?_) hret.rep) (fun t x _ hx => ?_)
  · rcases hret.fresh b hb with q | q | q
    · exact hr.fresh b q
    · exact .inr (.inl (Nat.le_trans hr.fra.size q))
    · exact .inr (hMc q)
  · rcases hsplit hi with ⟨h1, h2⟩ | ⟨h1, h2⟩
    · rw [hsm i h1] at hp; exact hr.mine _ _ _ (hownl h2) hp
    · rw [hpin i h1] at hp
      rcases hret.mine _ _ _ h2 hp with q | q
      · exact .inl (Nat.le_trans hr.fra.size q)
      · exact hMc q
  · rw [hret.kept.block b (Nat.lt_of_lt_of_le hb hr.fra.size) (fun hm => ?_)]
    · exact hr.fra.block b hb hM'
    · rcases hMc hm with q | q
      · omega
      · exact hM' q
  · obtain ⟨e2, he2⟩ := hasK_look (avIn_men hfl j hj)
    have hj2 := hs' _ _ he2
    exact ⟨look_big ho hj2, hpin j hj2⟩
  · obtain ⟨y, hy, rfl⟩ := look_purFr hx
    refine ⟨y, hy, fun z hz => ?_⟩
    have hcl := avClean_men (frClean_look hfc hx)
    unfold purV at hcl ⊢
    cases hm : y.men id with
    | true => trivial
    | false =>
      rw [hm] at hcl
      exact RepV.ext hret.le hE (fun i hi => hcl i hi) hz
theorem s_callV (id : Nat) (o1 : Sto) {d : Nat} {s s' : Sto} {fop : Operand} {args : Array Operand} {ats : Array TypeId} {f : FuncId} {avs : List AV} {rav : AV} (hC : CallA P f avs s rav s') (hs : bigS s) (hs' : bigS s') (hin : stoIn s s = true) (hin' : stoIn s' s' = true) (hlp : look s 1000000 = none) (hlp' : look s' 1000000 = none)
    (hsto : sto = o1 ++ s) (ho : o.op = .call { callee := .value fop, args := args, argTypes := ats }) (hg : o.guard = none) (hdst : o.dst = some d) (hd : Nat.blt d n = true) (hf : ev ⟨fr, sto⟩ fop = some (.one (.d (.fn f []))))
    (ha : evL ⟨fr, sto⟩ args.toList = some avs) (hai : avsIn s avs = true) (hk : (keysLt 1000000 o1 && stoClean o1 && frClean (purFr id fr)) = true) (hfl : avIn s' rav = true)
    (h : OkOps P ⟨w0, σ0, φ0, M, n, rd, mk⟩ ops rest ⟨(d, rav) :: purFr id fr, o1 ++ s'⟩ K) : OkOps P ⟨w0, σ0, φ0, M, n, rd, mk⟩ ops (o :: rest) ⟨fr, sto⟩ K := by
  subst hsto
  refine okops_enter hg fun a w σ φ hr => ?_
  have hfr := ev_rep hr hf
  replace hfr := RepC.d_inv hfr
  generalize hfe : a.eval fop = fv at hfr
  have hk' := hk
  simp only [Bool.and_eq_true] at hk'
  cases hfr with
  | fn cs hl hcs =>
    have : cs = [] := by cases cs with | nil => rfl | cons _ _ => simp at hl
    subst this
    have hargs := repL_pinned hk'.1.1 hs hai (evL_rep hr ha)
    refine ⟨f, _, _, run_call ho hfe hC.fn, hC.run w σ φ _ (HInv.pinned hk'.1.1 hs hin hr.inv) (by rw [List.append_nil]; exact hargs), ?_⟩
    rintro e w' ⟨v, σ', φ', rfl, hret⟩
    refine ⟨v, _, σ', _, rfl, hr.callV id (dst := o.dst) (by rw [hdst]; exact hd) hk hs hs' hin' hlp hlp' hfl hret, ?_⟩
    rw [hdst]; exact h
theorem bigS_one {i : Nat} {e : AObj} (hi : 1000000 ≤ i) : bigS [(i, e)] := by
  intro j x h
  rcases look_cons h with ⟨rfl, _⟩ | ⟨_, h⟩
  · exact hi
  · cases h
theorem s_callV1 (o1 : Sto) {d m : Nat} {k b k' b' : Nat} {xs xs' : List (List D)} {fop : Operand} {args : Array Operand} {ats : Array TypeId} {f : FuncId} {avs : List AV} (hC : CallA P f avs [(2000000, .row k b xs)] (.one (.own 2000000 m)) [(2000000, .row k' b' xs')])
    (hsto : sto = o1 ++ [(2000000, .row k b xs)]) (ho : o.op = .call { callee := .value fop, args := args, argTypes := ats }) (hg : o.guard = none) (hdst : o.dst = some d) (hd : Nat.blt d n = true) (hf : ev ⟨fr, sto⟩ fop = some (.one (.d (.fn f []))))
    (ha : evL ⟨fr, sto⟩ args.toList = some avs) (hai : avsIn [(2000000, .row k b xs)] avs = true) (hk : (keysLt 1000000 o1 && stoClean o1 && frClean (purFr 2000000 fr)) = true)
    (h : OkOps P ⟨w0, σ0, φ0, M, n, rd, mk⟩ ops rest ⟨(d, .one (.own 2000000 m)) :: purFr 2000000 fr, o1 ++ [(2000000, .row k' b' xs')]⟩ K) : OkOps P ⟨w0, σ0, φ0, M, n, rd, mk⟩ ops (o :: rest) ⟨fr, sto⟩ K :=
  s_callV 2000000 o1 hC (bigS_one (by omega)) (bigS_one (by omega)) rfl rfl rfl rfl hsto ho hg hdst hd hf ha hai hk rfl h
theorem all2_last {φ1 : Pl} {s : Sto} {x y : AV} : ∀ {avs : List AV} {vs : List Value}, avsIn [] avs = true → All2 (RepV σ φ []) (avs ++ [x]) vs → (∀ v, RepV σ φ [] x v → RepV σ φ1 s y v) → All2 (RepV σ φ1 s) (avs ++ [y]) vs
  | [], [v], _, h, hx => ⟨hx v h.1, trivial⟩
  | [], [], _, h, _ => h.elim
  | [], _ :: _ :: _, _, h, _ => h.2.elim
  | a :: avs, [], _, h, _ => h.elim
  | a :: avs, v :: vs, hin, h, hx => by
    simp only [avsIn, Bool.and_eq_true] at hin
    refine ⟨RepV.mv (fun j hj => ?_) h.1, all2_last hin.2 h.2 hx⟩
    have := avIn_men hin.1 j hj
    simp [hasK, look] at this
theorem callA_nilrow {f : FuncId} {avs : List AV} {rav : AV} {rsto : Sto} {i k b : Nat} (hi : ¬ Pin i) (hin : avsIn [] avs = true) (hC : CallA P f (avs ++ [.one (.own i 0)]) [(i, .row k b [])] rav rsto) : CallA P f (avs ++ [.one (.d .nil)]) [] rav rsto := by
  refine ⟨hC.fn, fun w σ φ vs hinv hargs => ?_⟩
  let φ1 : Pl := fun j => if j = i then none else φ j
  have h1 : HInv σ φ1 [(i, .row k b [])] w := by
    refine ⟨hinv.sig, fun j e h => ?_, fun j j' e e' p p' h h' hne => ?_⟩
    · rcases look_cons h with ⟨rfl, rfl⟩ | ⟨_, h⟩
      · exact .inl ⟨rfl, by simp [φ1]⟩
      · cases h
    · rcases look_cons h with ⟨rfl, _⟩ | ⟨_, h⟩
      · rcases look_cons h' with ⟨rfl, _⟩ | ⟨_, h'⟩
        · exact absurd rfl hne
        · cases h'
      · cases h
  have hM : ∀ b', ¬ MOf φ1 [(i, .row k b [])] b' := by
    rintro b' ⟨j, e, p, h2, h3, _⟩
    rcases look_cons h2 with ⟨rfl, _⟩ | ⟨_, h2⟩
    · simp [φ1] at h3
    · cases h2
  have hM0 : ∀ b', ¬ MOf φ ([] : Sto) b' := by
    rintro b' ⟨j, e, p, h2, _⟩; cases h2
  have hargs1 : All2 (RepV σ φ1 [(i, .row k b [])]) (avs ++ [.one (.own i 0)]) vs := by
    refine all2_last hin hargs fun v hv => ?_
    have hv : RepC σ φ _ (.d .nil) v := hv
    replace hv := hv.d_inv
    cases hv
    have hl : look [(i, AObj.row k b [])] i = some (.row k b []) := by simp [look]
    have hp : φ1 i = none := by simp [φ1]
    exact RepC.ownNil hl hp
  refine (hC.run w σ φ1 vs h1 hargs1).mono ?_
  rintro e w' ⟨v, σ', φ', rfl, hr⟩
  refine ⟨v, σ', φ', rfl, ⟨hr.le, fun b' hb => ?_, hr.inv, hr.rep, fun j e p h2 h3 => ?_, fun j hj => ?_, ?_⟩⟩
  · rcases hr.fresh b' hb with q | q | q
    · exact .inl q
    · exact .inr (.inl q)
    · exact absurd q (hM b')
  · rcases hr.mine j e p h2 h3 with q | q
    · exact .inl q
    · exact absurd q (hM p.1)
  · rw [hr.pin j hj]
    simp only [φ1]
    rw [if_neg (fun (h : j = i) => hi (h ▸ hj))]
  · have h := hr.kept
    exact ⟨h.os, h.tape, h.output, h.size, h.drawn, fun b' hb _ => h.block b' hb (hM b')⟩
end Go.Abs
namespace Go.Abs
open Go
variable {V : Env} {st : St} {o : Oper}
theorem step3_sliceDHi {t e : TypeId} {x y : Operand} {k k' b b' : Nat} {ik : IntKind} {h : Int} {xs : List (List D)} {z : List D} (ho : o.op = .slice t x none (some y) none) (ht : sliceTy V.T t = some (e, k', b', z)) (hx : ev st x = some (.one (.d (.sl k b xs)))) (hy : ev st y = some (.one (.d (.int ik h))))
    (hk : Nat.beq k k' = true) (h0 : 0 ≤ h) (hm : h.toNat ≤ xs.length) : step3 V st o 0 = some ⟨.one (.d (.sl k b (xs.take h.toNat))), [], []⟩ := by
  have e1 : Nat.ble h.toNat xs.length = true := Nat.ble_eq.mpr hm
  have e0 : Nat.ble 0 h.toNat = true := Nat.ble_eq.mpr (Nat.zero_le _)
  simp only [step3, stepE, valF, ho, otherE, bndF, hx, hy, h0, decide_true, cond_true, sliceV, ht, hk, e0, e1, Bool.and_self, List.drop_zero]
theorem step3_sliceDLo {t e : TypeId} {x y : Operand} {k k' b b' : Nat} {ik : IntKind} {h : Int} {xs : List (List D)} {z : List D} (ho : o.op = .slice t x (some y) none none) (ht : sliceTy V.T t = some (e, k', b', z)) (hx : ev st x = some (.one (.d (.sl k b xs)))) (hy : ev st y = some (.one (.d (.int ik h))))
    (hk : Nat.beq k k' = true) (h0 : 0 ≤ h) (hm : h.toNat ≤ xs.length) : step3 V st o 0 = some ⟨.one (.d (.sl k b (xs.drop h.toNat))), [], []⟩ := by
  have e1 : Nat.ble h.toNat xs.length = true := Nat.ble_eq.mpr hm
  have e2 : Nat.ble xs.length xs.length = true := Nat.ble_eq.mpr (Nat.le_refl _)
  simp only [step3, stepE, valF, ho, otherE, bndF, hx, hy, h0, decide_true, cond_true, sliceV, ht, hk, e1, e2, Bool.and_self, List.take_length]
end Go.Abs
namespace Go.Proofs.YtpejdgkaapnekaaGreat
open Go Go.Abs
attribute [local irreducible] OkOps OkC DRun thenQ blockQ RetQ
set_option maxRecDepth 10000
def encNm (s : List UInt8) : List D := [.str s]
def insF : List (List UInt8) → List UInt8 → List (List UInt8)
  | [], n => [n]
  | x :: r, n => if x == n then x :: r else if !(Op.bytesLess x n || x == n) then n :: x :: r else x :: insF r n
theorem ins_step {l : List (List UInt8)} {n : List UInt8} {k : Nat} (hk : k < l.length) : l.take k ++ insF (l.drop k) n = if at_ l k == n then l else if !(Op.bytesLess (at_ l k) n || at_ l k == n) then l.take k ++ [n] ++ l.drop k else l.take (k + 1) ++ insF (l.drop (k + 1)) n := by
  have e := at_drop hk
  rw [e, at_take hk]
  simp only [insF]
  split
  · rw [← e, List.take_append_drop]
  · split
    · simp
    · simp
theorem ins_row {X : List (List D)} {k m : Nat} {y : List D} (hm : X.length = m) (hk : k ≤ m) :
    List.take (0 + (List.take k (List.take m X)).length + (List.take 1 [y]).length) (List.take (0 + (List.take k (List.take m X)).length) (List.take 0 [] ++ List.take k (List.take m X)) ++ List.take 1 [y]) ++ List.drop k (List.take m X) = X.take k ++ [y] ++ X.drop k ∧
    0 + (List.take k (List.take m X)).length + (List.take 1 [y]).length + (List.drop k (List.take m X)).length = (X.take k ++ [y] ++ X.drop k).length := by
  have e : List.take m X = X := List.take_of_length_le (by omega)
  rw [e]
  have e2 : (X.take k).length = k := by simp; omega
  have e3 : List.take (0 + (X.take k).length) (List.take 0 [] ++ X.take k) = X.take k := List.take_of_length_le (by simp)
  rw [e3]
  have e4 : List.take (0 + (X.take k).length + (List.take 1 [y]).length) (X.take k ++ List.take 1 [y]) = X.take k ++ [y] := List.take_of_length_le (by simp)
  rw [e4]
  exact ⟨rfl, by simp; omega⟩
theorem c220 (l : List (List UInt8)) (n : List UInt8) (hl : l.length ≤ 1000) : CallA Tryz.prog 220 [.one (.own 2000000 l.length), .one (.d (.str n))] [(2000000, .row 1 16 (l.map encNm))] (.one (.own 2000000 (insF l n).length)) [(2000000, .row 1 16 ((insF l n).map encNm))] := by
  refine enter tabOk Tryz.func220 rfl (by decide +kernel) rfl fun hok w0 σ0 φ0 M => ?_
  clear hok
  repeat' (first | (show OkOps _ _ _ _ _ _; first | (show OkOps _ _ _ (Oper.mk _ (Op.slice _ _ none _ _) _ _ _ (_) :: _) _ _; first | refine s_e envOk rfl rfl rfl (step3_sliceDHi rfl rfl rfl rfl rfl (Int.natCast_nonneg _) (by simp only [List.length_take, List.length_map, Int.toNat_natCast]; omega)) ?_ | fail) | (show OkOps _ _ _ (Oper.mk _ (Op.slice _ _ _ none _) _ _ _ (_) :: _) _ _; first | refine s_e envOk rfl rfl rfl (step3_sliceDLo rfl rfl rfl rfl rfl (Int.natCast_nonneg _) (by simp only [List.length_take, List.length_map, Int.toNat_natCast]; omega)) ?_ | fail) | (show OkOps _ _ _ (Oper.mk _ (Op.indexAddr _ _ _) _ _ _ (_) :: _) _ _; first | refine s_e envOk rfl rfl rfl (step3_idxOwn rfl rfl rfl rfl rfl rfl (Int.natCast_nonneg _) (by first | omega | ((try simp only [decide_eq_true_eq, decide_eq_false_iff_not, Bool.not_eq_true', Bool.not_true, Bool.not_false, List.length_map, List.length_set, bne_iff_ne, ne_eq, beq_iff_eq, bne_eq_false_iff_eq, beq_eq_false_iff_ne] at *); omega))) ?_ | fail) | (show OkOps _ _ _ (Oper.mk _ (Op.call _) _ _ _ (_) :: _) _ _; first | refine s_append tabOk rfl rfl rfl rfl rfl rfl rfl rfl rfl rfl rfl rfl rfl (by first | omega | ((try simp only [decide_eq_true_eq, decide_eq_false_iff_not, List.length_map, List.length_cons, List.length_nil, List.length_append, List.length_take, List.length_drop, Int.toNat_natCast] at *); omega)) (by first | exact Nat.le_of_ble_eq_true rfl | omega | ((try simp only [decide_eq_true_eq, decide_eq_false_iff_not, List.length_map, List.length_cons, List.length_nil, List.length_append, List.length_take, List.length_drop, Int.toNat_natCast] at *); omega)) (Nat.le_of_ble_eq_true rfl) ?_ | fail) | refine okops_nil ?_ | refine s_plain tabOk rfl rfl rfl rfl rfl ?_ | (show OkOps _ _ _ (Oper.mk _ (Op.binOp .add _ _ _ _) _ _ _ (_) :: _) _ _; first | refine s_e envOk rfl rfl rfl (step3_add rfl rfl rfl rfl (wrap64 (by omega) (by omega))) ?_ | fail) | (show OkOps _ _ _ (Oper.mk _ (Op.load _ _) _ _ _ (_) :: _) _ _; first | refine s_e envOk rfl rfl rfl (step3_loadRow rfl rfl rfl rfl (at_map (by first | omega | ((try simp only [decide_eq_true_eq, decide_eq_false_iff_not, Bool.not_eq_true', Bool.not_true, Bool.not_false, List.length_map, List.length_set, bne_iff_ne, ne_eq, beq_iff_eq, bne_eq_false_iff_eq, beq_eq_false_iff_ne] at *); omega))) rfl) ?_ | fail) | refine s_new envOk 0 rfl rfl rfl rfl rfl rfl ?_ | refine s_new envOk 1 rfl rfl rfl rfl rfl rfl ?_ | fail) | (show OkC _ _ _ _ _; first | (show OkC _ _ (Code.region 7 _ _) _ _; refine okc_imp (imp_sealL (dl := [2000000]) rfl) ?_) | (show OkC _ _ (Code.region 9 _ _) _ _; refine okc_imp (Imp.trans (imp_sub (f' := [(6, .one (.own 0 _)), (0, .one (.d _)), (5, .one (.d _))]) (s' := [(0, _)]) (subL_cons rfl (subL_cons rfl (subL_cons rfl subL_nil))) (subL_cons rfl subL_nil)) (imp_ren (fun i => bif Nat.beq i 0 then 2000000 else i) rfl)) ?_) | refine ok_seq ?_ | refine ok_region ?_ | refine ok_block ?_ | refine ok_skip ?_ | refine ok_ret ?_ | refine ok_exit ?_ | refine ok_cond rfl (fun h => ?_) (fun h => ?_) | refine s_loopM 2 rfl [(0, _), (1, _)] (subL_cons rfl (subL_cons rfl subL_nil)) (fun (k : Nat) => [(5, .one (.d (.int .i64 (k : Int))))]) (fun (k : Nat) => [(2000000, .row 1 16 (l.map encNm))]) (fun (k : Nat) => k ≤ l.length ∧ insF l n = l.take k ++ insF (l.drop k) n) (fun (k : Nat) => l.length - k) 0 (subL_cons rfl subL_nil) (by first | exact subL_nil | exact (subL_cons rfl subL_nil) | exact (subL_cons rfl (subL_cons rfl subL_nil)) | exact (subL_cons rfl (subL_cons rfl (subL_cons rfl subL_nil))) | exact (subL_cons rfl (subL_cons rfl (subL_cons rfl (subL_cons rfl subL_nil)))) | exact (subL_cons rfl (subL_cons rfl (subL_cons rfl (subL_cons rfl (subL_cons rfl subL_nil))))) | exact (subL_cons rfl (subL_cons rfl (subL_cons rfl (subL_cons rfl (subL_cons rfl (subL_cons rfl subL_nil)))))) | exact (subL_cons rfl (subL_cons rfl (subL_cons rfl (subL_cons rfl (subL_cons rfl (subL_cons rfl (subL_cons rfl subL_nil))))))) | exact (subL_cons rfl (subL_cons rfl (subL_cons rfl (subL_cons rfl (subL_cons rfl (subL_cons rfl (subL_cons rfl (subL_cons rfl subL_nil))))))))) ?_ (fun k ⟨hk, hs⟩ => ?_) | fail) | (show thenQ _ _ _ _; first | refine then_n ?_ | refine then_r ?_ | refine then_x ?_ | fail) | (show blockQ _ _ _ _; first | refine block_n ?_ | refine block_r ?_ | refine block_x rfl ?_ | fail) | (show Exists _; first | refine Exists.intro (k + 1) ⟨?_, ?_, (by first | exact subL_nil | exact (subL_cons rfl subL_nil) | exact (subL_cons rfl (subL_cons rfl subL_nil)) | exact (subL_cons rfl (subL_cons rfl (subL_cons rfl subL_nil))) | exact (subL_cons rfl (subL_cons rfl (subL_cons rfl (subL_cons rfl subL_nil)))) | exact (subL_cons rfl (subL_cons rfl (subL_cons rfl (subL_cons rfl (subL_cons rfl subL_nil))))) | exact (subL_cons rfl (subL_cons rfl (subL_cons rfl (subL_cons rfl (subL_cons rfl (subL_cons rfl subL_nil)))))) | exact (subL_cons rfl (subL_cons rfl (subL_cons rfl (subL_cons rfl (subL_cons rfl (subL_cons rfl (subL_cons rfl subL_nil))))))) | exact (subL_cons rfl (subL_cons rfl (subL_cons rfl (subL_cons rfl (subL_cons rfl (subL_cons rfl (subL_cons rfl (subL_cons rfl subL_nil))))))))), (subL_cons rfl subL_nil), (subL_cons rfl (subL_cons rfl subL_nil))⟩ | fail) | fail)
  all_goals (try rw [Int.toNat_natCast] at *)
  all_goals first
    | exact ⟨Nat.zero_le _, by simp⟩
    | (have hk' : k < l.length := of_decide_eq_true (by simpa using ‹decide ((k : Int) < (l.length : Int)) = true›)
       have hs' := hs.trans (ins_step hk')
       first
         | (show _ - _ < _ - _
            omega)
         | (refine ⟨hk', ?_⟩
            simp_all)
         | skip)
    | skip
  · have e : insF l n = l := by rw [hs', if_pos h]
    rw [e]
    exact ret_leafS (.inl rfl) rfl rfl rfl (subL_cons rfl subL_nil)
  · have e : insF l n = l.take k ++ [n] ++ l.drop k := by rw [hs', if_neg (by simp_all), if_pos h]
    obtain ⟨e1, e2⟩ := ins_row (X := l.map encNm) (k := k) (y := [.str n]) (m := l.length) (by simp) hk
    have e3 : (l.map encNm).take k ++ [[.str n]] ++ (l.map encNm).drop k = (insF l n).map encNm := by rw [e]; simp [encNm, List.map_take, List.map_drop]
    rw [e3] at e1 e2
    refine ret_leafS (.inl rfl) rfl rfl (congrArg (fun x => AV.one (.own 2000000 x)) (e2.trans (by simp))) (subL_cons (congrArg (fun x => some (AObj.row 1 16 x)) e1) subL_nil)
  · have hge : l.length ≤ k := by have := of_decide_eq_false h; omega
    have e : insF l n = l ++ [n] := by rw [hs, List.take_of_length_le hge, List.drop_eq_nil_of_le hge]; rfl
    rw [e]
    refine ret_leafS (.inl rfl) rfl rfl (congrArg (fun x => AV.one (.own 2000000 x)) (by simp)) (subL_cons (congrArg (fun x => some (AObj.row 1 16 x)) ?_) subL_nil)
    rw [List.take_of_length_le (by simp)]; simp [encNm]
end Go.Proofs.YtpejdgkaapnekaaGreat
namespace Go.Proofs.YtpejdgkaapnekaaGreat
open Go Go.Abs
attribute [local irreducible] OkOps OkC DRun thenQ blockQ RetQ
set_option maxRecDepth 10000
mutual
def usesF : Scalar → List (List UInt8) → List (List UInt8)
  | .mk o n v a, l => usesL a (if o == 2 || o == 3 then insF l n else l)
def usesL : List Scalar → List (List UInt8) → List (List UInt8)
  | [], l => l
  | x :: r, l => usesL r (usesF x l)
end
theorem usesF_eq : ∀ {s : Scalar} {l : List (List UInt8)}, usesF s l = usesL s.args (if namedF s then insF l s.name else l)
  | .mk o n v a, l => by simp [usesF, namedF, Scalar.op, Scalar.name, Scalar.args]
theorem ins_len {n : List UInt8} : ∀ {l : List (List UInt8)}, (insF l n).length ≤ l.length + 1
  | [] => by simp [insF]
  | x :: r => by
    have := ins_len (n := n) (l := r)
    simp only [insF]
    split
    · simp
    · split
      · simp
      · simp only [List.length_cons]; omega
mutual
theorem uses_len : ∀ (s : Scalar) (l : List (List UInt8)), (usesF s l).length ≤ l.length + (postL s).length
  | .mk o n v a, l => by
    have h := usesL_len a (if o == 2 || o == 3 then insF l n else l)
    have h2 := ins_len (n := n) (l := l)
    simp only [usesF, postL, List.length_append, List.length_singleton]
    split at h
    · simp only [*, if_true] at h ⊢; omega
    · simp only [*, if_false, Bool.false_eq_true] at h ⊢; omega
theorem usesL_len : ∀ (a : List Scalar) (l : List (List UInt8)), (usesL a l).length ≤ l.length + (postLs a).length
  | [], l => by simp [usesL, postLs]
  | x :: r, l => by
    have h1 := uses_len x l
    have h2 := usesL_len r (usesF x l)
    simp only [usesL, postLs, List.length_append]
    omega
end
set_option maxHeartbeats 1000000 in
theorem c166 (s : Scalar) : ∀ l : List (List UInt8), l.length + (postL s).length ≤ 1000 → CallA Tryz.prog 166 [aggS s, .one (.own 2000000 l.length)] [(2000000, .row 1 16 (l.map encNm))] (.one (.own 2000000 (usesF s l).length)) [(2000000, .row 1 16 ((usesF s l).map encNm))] := by
  induction s using Scalar.ind with
  | h s ih =>
    intro l hlen
    have hal := (post_args (s := s)).1
    have hp1 : 1 ≤ (postL s).length := by rw [postL_eq]; simp
    have room : ∀ {k : Nat} {m : List (List UInt8)}, k < s.args.length → m.length + (postLs (s.args.drop k)).length ≤ 1000 → m.length + (postL (at_ s.args k)).length ≤ 1000 := by
      intro k m hk hb
      rw [at_drop hk, postLs, List.length_append] at hb
      omega
    refine enter tabOk Tryz.func166 rfl (by decide +kernel) rfl fun hok w0 σ0 φ0 M => ?_
    clear hok
    have hsp : ((s.op == 2) = true ∨ (s.op == 2) = false ∧ (s.op == 3) = true) ∨ ((s.op == 2) = false ∧ (s.op == 3) = false) := by cases s.op == 2 <;> cases s.op == 3 <;> simp
    rcases hsp with hb2 | ⟨hb2, hb3⟩
    · have hn : namedF s = true := by unfold namedF; rcases hb2 with h | ⟨h1, h2⟩ <;> simp [*]
      rcases hb2 with hb2 | ⟨hb2, hb3⟩
      repeat' (first | (show OkOps _ _ _ _ _ _; first | (show OkOps _ _ _ (Oper.mk _ (Op.call _) _ _ _ (_) :: _) _ _; first | refine s_callV1 [(0, _)] (c220 l s.name (by omega)) rfl rfl rfl rfl rfl rfl rfl rfl rfl ?_ | fail) | (show OkOps _ _ _ (Oper.mk _ (Op.call _) _ _ _ (_) :: _) _ _; first | refine s_callV1 [(0, _)] (ih _ (at_mem (by first | omega | ((try simp only [decide_eq_true_eq, decide_eq_false_iff_not, Bool.not_eq_true', Bool.not_true, Bool.not_false, List.length_map, List.length_set, bne_iff_ne, ne_eq, beq_iff_eq, bne_eq_false_iff_eq, beq_eq_false_iff_ne] at *); omega))) p.2 (room (by first | omega | ((try simp only [decide_eq_true_eq, decide_eq_false_iff_not, Bool.not_eq_true', Bool.not_true, Bool.not_false, List.length_map, List.length_set, bne_iff_ne, ne_eq, beq_iff_eq, bne_eq_false_iff_eq, beq_eq_false_iff_ne] at *); omega)) hb)) rfl rfl rfl rfl rfl rfl rfl rfl rfl ?_ | fail) | refine okops_nil ?_ | refine s_plain tabOk rfl rfl rfl rfl rfl ?_ | (show OkOps _ _ _ (Oper.mk _ (_) _ _ _ (some _) :: _) _ _; first | refine s_guard rfl rfl (by first | assumption | rfl) ?_ | refine s_out rfl rfl (by first | assumption | rfl) rfl rfl ?_ | fail) | (show OkOps _ _ _ (Oper.mk _ (Op.binOp .add _ _ _ _) _ _ _ (_) :: _) _ _; first | refine s_e envOk rfl rfl rfl (step3_add rfl rfl rfl rfl (wrap64 (by omega) (by omega))) ?_ | fail) | (show OkOps _ _ _ (Oper.mk _ (Op.pick _ _ _) _ _ _ (_) :: _) _ _; first | refine s_e envOk rfl rfl rfl (step3_pickT rfl rfl (by first | rfl | assumption) rfl) ?_ | refine s_e envOk rfl rfl rfl (step3_pickF rfl rfl (by first | rfl | assumption) rfl) ?_ | fail) | (show OkOps _ _ _ (Oper.mk _ (Op.indexAddr _ _ _) _ _ _ (_) :: _) _ _; first | refine s_e envOk rfl rfl rfl (step3_idx rfl rfl rfl rfl rfl (by first | omega | ((try simp only [decide_eq_true_eq, decide_eq_false_iff_not, Bool.not_eq_true', Bool.not_true, Bool.not_false, List.length_map, List.length_set, bne_iff_ne, ne_eq, beq_iff_eq, bne_eq_false_iff_eq, beq_eq_false_iff_ne] at *); omega)) (at_mapS (by first | omega | ((try simp only [decide_eq_true_eq, decide_eq_false_iff_not, Bool.not_eq_true', Bool.not_true, Bool.not_false, List.length_map, List.length_set, bne_iff_ne, ne_eq, beq_iff_eq, bne_eq_false_iff_eq, beq_eq_false_iff_ne] at *); omega)))) ?_ | fail) | (show OkOps _ _ _ (Oper.mk _ (Op.box _ _) _ _ _ (_) :: _) _ _; first | refine s_box 0 rfl rfl rfl rfl rfl rfl ?_ | fail) | fail) | (show OkC _ _ _ _ _; first | (show OkC _ _ (Code.region 5 _ _) (St.mk (_ :: _ :: _ :: _ :: _) _) _; refine okc_imp (imp_sub (f' := [(1, .one (.own 2000000 _)), (5, .one (.d (.int .i64 (p.1 : Int)))), (2, .one (.ref 0 0))]) (s' := [(0, _), (2000000, _)]) (subL_cons rfl (subL_cons rfl (subL_cons rfl subL_nil))) (subL_cons rfl (subL_cons rfl subL_nil))) ?_) | refine ok_seq ?_ | refine ok_region ?_ | refine ok_block ?_ | refine ok_skip ?_ | refine ok_ret ?_ | refine ok_exit ?_ | refine ok_condT rfl ?_ | refine ok_condKT rfl (by assumption) ?_ | refine ok_cond rfl (fun h => ?_) (fun h => ?_) | refine s_loopM 4 rfl [(2, _)] (subL_cons rfl subL_nil) (fun (p : Nat × List (List UInt8)) => [(1, .one (.own 2000000 p.2.length)), (5, .one (.d (.int .i64 (p.1 : Int))))]) (fun (p : Nat × List (List UInt8)) => [(0, .box [.d (.int .i64 s.op), .d (.str s.name), .d (.int .i64 s.val.kind), .d (.int .i64 s.val.num), .d (.int .i64 s.val.den), .d (.str s.val.str), .d (encScalars s.args)]), (2000000, .row 1 16 (p.2.map encNm))]) (fun (p : Nat × List (List UInt8)) => p.1 ≤ s.args.length ∧ usesF s l = usesL (s.args.drop p.1) p.2 ∧ p.2.length + (postLs (s.args.drop p.1)).length ≤ 1000) (fun (p : Nat × List (List UInt8)) => s.args.length - p.1) (0, insF l s.name) (subL_cons rfl (subL_cons rfl subL_nil)) (by first | exact subL_nil | exact (subL_cons rfl subL_nil) | exact (subL_cons rfl (subL_cons rfl subL_nil)) | exact (subL_cons rfl (subL_cons rfl (subL_cons rfl subL_nil))) | exact (subL_cons rfl (subL_cons rfl (subL_cons rfl (subL_cons rfl subL_nil)))) | exact (subL_cons rfl (subL_cons rfl (subL_cons rfl (subL_cons rfl (subL_cons rfl subL_nil))))) | exact (subL_cons rfl (subL_cons rfl (subL_cons rfl (subL_cons rfl (subL_cons rfl (subL_cons rfl subL_nil)))))) | exact (subL_cons rfl (subL_cons rfl (subL_cons rfl (subL_cons rfl (subL_cons rfl (subL_cons rfl (subL_cons rfl subL_nil))))))) | exact (subL_cons rfl (subL_cons rfl (subL_cons rfl (subL_cons rfl (subL_cons rfl (subL_cons rfl (subL_cons rfl (subL_cons rfl subL_nil))))))))) ?_ (fun p ⟨hk, hs, hb⟩ => ?_) | fail) | (show thenQ _ _ _ _; first | refine then_n ?_ | refine then_x ?_ | fail) | (show blockQ _ _ _ _; first | refine block_n ?_ | refine block_x rfl ?_ | fail) | (show Exists _; first | refine Exists.intro ((p.1 + 1, usesF (at_ s.args p.1) p.2)) ⟨?_, ?_, (by first | exact subL_nil | exact (subL_cons rfl subL_nil) | exact (subL_cons rfl (subL_cons rfl subL_nil)) | exact (subL_cons rfl (subL_cons rfl (subL_cons rfl subL_nil))) | exact (subL_cons rfl (subL_cons rfl (subL_cons rfl (subL_cons rfl subL_nil)))) | exact (subL_cons rfl (subL_cons rfl (subL_cons rfl (subL_cons rfl (subL_cons rfl subL_nil))))) | exact (subL_cons rfl (subL_cons rfl (subL_cons rfl (subL_cons rfl (subL_cons rfl (subL_cons rfl subL_nil)))))) | exact (subL_cons rfl (subL_cons rfl (subL_cons rfl (subL_cons rfl (subL_cons rfl (subL_cons rfl (subL_cons rfl subL_nil))))))) | exact (subL_cons rfl (subL_cons rfl (subL_cons rfl (subL_cons rfl (subL_cons rfl (subL_cons rfl (subL_cons rfl (subL_cons rfl subL_nil))))))))), (subL_cons rfl (subL_cons rfl subL_nil)), (subL_cons rfl subL_nil)⟩ | fail) | fail)
      all_goals first
        | exact ⟨Nat.zero_le _, by rw [usesF_eq, hn]; rfl, by have := ins_len (n := s.name) (l := l); rw [postL_eq, List.length_append] at hlen; simp only [List.length_singleton] at hlen; show (insF l s.name).length + (postLs (s.args.drop 0)).length ≤ 1000; rw [List.drop_zero]; omega⟩
        | (have hlt : p.1 < s.args.length := by simpa using h
           refine ⟨hlt, ?_, ?_⟩
           · rw [hs, at_drop hlt]; simp only [usesL, Int.toNat_natCast]
           · have h1 := uses_len (at_ s.args p.1) p.2
             rw [at_drop hlt, postLs, List.length_append] at hb
             show (usesF (at_ s.args p.1) p.2).length + (postLs (s.args.drop (p.1 + 1))).length ≤ 1000
             omega)
        | (have hlt : p.1 < s.args.length := by simpa using h
           show s.args.length - (p.1 + 1) < s.args.length - p.1
           omega)
        | (have hge : s.args.length ≤ p.1 := by simpa using h
           have e : usesF s l = p.2 := by rw [hs, List.drop_eq_nil_of_le hge, usesL]
           rw [e]
           exact ret_leafS (.inl rfl) rfl rfl rfl (subL_cons rfl subL_nil))
        | trace_state
    · have hn : namedF s = false := by simp [namedF, hb2, hb3]
      repeat' (first | (show OkOps _ _ _ _ _ _; first | (show OkOps _ _ _ (Oper.mk _ (Op.call _) _ _ _ (_) :: _) _ _; first | refine s_callV1 [(0, _)] (ih _ (at_mem (by first | omega | ((try simp only [decide_eq_true_eq, decide_eq_false_iff_not, Bool.not_eq_true', Bool.not_true, Bool.not_false, List.length_map, List.length_set, bne_iff_ne, ne_eq, beq_iff_eq, bne_eq_false_iff_eq, beq_eq_false_iff_ne] at *); omega))) p.2 (room (by first | omega | ((try simp only [decide_eq_true_eq, decide_eq_false_iff_not, Bool.not_eq_true', Bool.not_true, Bool.not_false, List.length_map, List.length_set, bne_iff_ne, ne_eq, beq_iff_eq, bne_eq_false_iff_eq, beq_eq_false_iff_ne] at *); omega)) hb)) rfl rfl rfl rfl rfl rfl rfl rfl rfl ?_ | fail) | refine okops_nil ?_ | refine s_plain tabOk rfl rfl rfl rfl rfl ?_ | (show OkOps _ _ _ (Oper.mk _ (_) _ _ _ (some _) :: _) _ _; first | refine s_guard rfl rfl (by first | assumption | rfl) ?_ | fail) | (show OkOps _ _ _ (Oper.mk _ (Op.binOp .add _ _ _ _) _ _ _ (_) :: _) _ _; first | refine s_e envOk rfl rfl rfl (step3_add rfl rfl rfl rfl (wrap64 (by omega) (by omega))) ?_ | fail) | (show OkOps _ _ _ (Oper.mk _ (Op.pick _ _ _) _ _ _ (_) :: _) _ _; first | refine s_e envOk rfl rfl rfl (step3_pickF rfl rfl (by first | rfl | assumption) rfl) ?_ | fail) | (show OkOps _ _ _ (Oper.mk _ (Op.indexAddr _ _ _) _ _ _ (_) :: _) _ _; first | refine s_e envOk rfl rfl rfl (step3_idx rfl rfl rfl rfl rfl (by first | omega | ((try simp only [decide_eq_true_eq, decide_eq_false_iff_not, Bool.not_eq_true', Bool.not_true, Bool.not_false, List.length_map, List.length_set, bne_iff_ne, ne_eq, beq_iff_eq, bne_eq_false_iff_eq, beq_eq_false_iff_ne] at *); omega)) (at_mapS (by first | omega | ((try simp only [decide_eq_true_eq, decide_eq_false_iff_not, Bool.not_eq_true', Bool.not_true, Bool.not_false, List.length_map, List.length_set, bne_iff_ne, ne_eq, beq_iff_eq, bne_eq_false_iff_eq, beq_eq_false_iff_ne] at *); omega)))) ?_ | fail) | (show OkOps _ _ _ (Oper.mk _ (Op.box _ _) _ _ _ (_) :: _) _ _; first | refine s_box 0 rfl rfl rfl rfl rfl rfl ?_ | fail) | fail) | (show OkC _ _ _ _ _; first | (show OkC _ _ (Code.region 5 _ _) (St.mk (_ :: _ :: _ :: _ :: _) _) _; refine okc_imp (imp_sub (f' := [(1, .one (.own 2000000 _)), (5, .one (.d (.int .i64 (p.1 : Int)))), (2, .one (.ref 0 0))]) (s' := [(0, _), (2000000, _)]) (subL_cons rfl (subL_cons rfl (subL_cons rfl subL_nil))) (subL_cons rfl (subL_cons rfl subL_nil))) ?_) | refine ok_seq ?_ | refine ok_region ?_ | refine ok_block ?_ | refine ok_skip ?_ | refine ok_ret ?_ | refine ok_exit ?_ | refine ok_condKF rfl (by assumption) ?_ | refine ok_cond rfl (fun h => ?_) (fun h => ?_) | refine s_loopM 4 rfl [(2, _)] (subL_cons rfl subL_nil) (fun (p : Nat × List (List UInt8)) => [(1, .one (.own 2000000 p.2.length)), (5, .one (.d (.int .i64 (p.1 : Int))))]) (fun (p : Nat × List (List UInt8)) => [(0, .box [.d (.int .i64 s.op), .d (.str s.name), .d (.int .i64 s.val.kind), .d (.int .i64 s.val.num), .d (.int .i64 s.val.den), .d (.str s.val.str), .d (encScalars s.args)]), (2000000, .row 1 16 (p.2.map encNm))]) (fun (p : Nat × List (List UInt8)) => p.1 ≤ s.args.length ∧ usesF s l = usesL (s.args.drop p.1) p.2 ∧ p.2.length + (postLs (s.args.drop p.1)).length ≤ 1000) (fun (p : Nat × List (List UInt8)) => s.args.length - p.1) (0, l) (subL_cons rfl (subL_cons rfl subL_nil)) (by first | exact subL_nil | exact (subL_cons rfl subL_nil) | exact (subL_cons rfl (subL_cons rfl subL_nil)) | exact (subL_cons rfl (subL_cons rfl (subL_cons rfl subL_nil))) | exact (subL_cons rfl (subL_cons rfl (subL_cons rfl (subL_cons rfl subL_nil)))) | exact (subL_cons rfl (subL_cons rfl (subL_cons rfl (subL_cons rfl (subL_cons rfl subL_nil))))) | exact (subL_cons rfl (subL_cons rfl (subL_cons rfl (subL_cons rfl (subL_cons rfl (subL_cons rfl subL_nil)))))) | exact (subL_cons rfl (subL_cons rfl (subL_cons rfl (subL_cons rfl (subL_cons rfl (subL_cons rfl (subL_cons rfl subL_nil))))))) | exact (subL_cons rfl (subL_cons rfl (subL_cons rfl (subL_cons rfl (subL_cons rfl (subL_cons rfl (subL_cons rfl (subL_cons rfl subL_nil))))))))) ?_ (fun p ⟨hk, hs, hb⟩ => ?_) | fail) | (show thenQ _ _ _ _; first | refine then_n ?_ | refine then_x ?_ | fail) | (show blockQ _ _ _ _; first | refine block_n ?_ | refine block_x rfl ?_ | fail) | (show Exists _; first | refine Exists.intro ((p.1 + 1, usesF (at_ s.args p.1) p.2)) ⟨?_, ?_, (by first | exact subL_nil | exact (subL_cons rfl subL_nil) | exact (subL_cons rfl (subL_cons rfl subL_nil)) | exact (subL_cons rfl (subL_cons rfl (subL_cons rfl subL_nil))) | exact (subL_cons rfl (subL_cons rfl (subL_cons rfl (subL_cons rfl subL_nil)))) | exact (subL_cons rfl (subL_cons rfl (subL_cons rfl (subL_cons rfl (subL_cons rfl subL_nil))))) | exact (subL_cons rfl (subL_cons rfl (subL_cons rfl (subL_cons rfl (subL_cons rfl (subL_cons rfl subL_nil)))))) | exact (subL_cons rfl (subL_cons rfl (subL_cons rfl (subL_cons rfl (subL_cons rfl (subL_cons rfl (subL_cons rfl subL_nil))))))) | exact (subL_cons rfl (subL_cons rfl (subL_cons rfl (subL_cons rfl (subL_cons rfl (subL_cons rfl (subL_cons rfl (subL_cons rfl subL_nil))))))))), (subL_cons rfl (subL_cons rfl subL_nil)), (subL_cons rfl subL_nil)⟩ | fail) | fail)
      all_goals first
        | exact ⟨Nat.zero_le _, by rw [usesF_eq, hn]; rfl, by rw [postL_eq, List.length_append] at hlen; simp only [List.length_singleton] at hlen; show l.length + (postLs (s.args.drop 0)).length ≤ 1000; rw [List.drop_zero]; omega⟩
        | (have hlt : p.1 < s.args.length := by simpa using h
           refine ⟨hlt, ?_, ?_⟩
           · rw [hs, at_drop hlt]; simp only [usesL, Int.toNat_natCast]
           · have h1 := uses_len (at_ s.args p.1) p.2
             rw [at_drop hlt, postLs, List.length_append] at hb
             show (usesF (at_ s.args p.1) p.2).length + (postLs (s.args.drop (p.1 + 1))).length ≤ 1000
             omega)
        | (have hlt : p.1 < s.args.length := by simpa using h
           show s.args.length - (p.1 + 1) < s.args.length - p.1
           omega)
        | (have hge : s.args.length ≤ p.1 := by simpa using h
           have e : usesF s l = p.2 := by rw [hs, List.drop_eq_nil_of_le hge, usesL]
           rw [e]
           exact ret_leafS (.inl rfl) rfl rfl rfl (subL_cons rfl subL_nil))
        | trace_state
theorem c166d (s : Scalar) (hs : (postL s).length ≤ 64) : CallA Tryz.prog 166 [aggS s, .one (.d .nil)] [] (.one (.own 2000000 (usesF s []).length)) [(2000000, .row 1 16 ((usesF s []).map encNm))] :=
  callA_nilrow (avs := [aggS s]) (fun h => absurd h.2 (by omega)) rfl (c166 s [] (by simp; omega))
theorem bigS_nil : bigS [] := fun _ _ h => nomatch h
def encNms (l : List (List UInt8)) : D := .sl 1 16 (l.map encNm)
def usesAV (s : Scalar) : AV := if formF s = 0 then .one (.d (encNms (usesF s []))) else .one (.d .nil)
theorem c74 (s : Scalar) : CallA Tryz.prog 74 [aggS s] [] (usesAV s) [] := by
  unfold usesAV
  by_cases h : formF s = 0
  · have hb : (formF s == 0) = true := by simp [h]
    have hsz := (form_ok h).2
    rw [if_pos h]
    refine enter tabOk Tryz.func74 rfl (by decide +kernel) rfl fun hok w0 σ0 φ0 M => ?_
    clear hok
    repeat' (first | (show OkOps _ _ _ _ _ _; first | (show OkOps _ _ _ (Oper.mk _ (Op.call _) _ _ _ (_) :: _) _ _; first | refine s_callV 2000000 [(0, _)] (c166d s hsz) bigS_nil (bigS_one (by omega)) rfl rfl rfl rfl rfl rfl rfl rfl rfl rfl rfl rfl rfl rfl ?_ | fail) | refine okops_nil ?_ | refine s_plain tabOk rfl rfl rfl rfl rfl ?_ | (show OkOps _ _ _ (Oper.mk _ (Op.call _) _ _ _ (_) :: _) _ _; first | refine s_callF rfl rfl rfl rfl rfl rfl rfl rfl (c77 _) rfl ?_ | fail) | (show OkOps _ _ _ (Oper.mk _ (Op.box _ _) _ _ _ (_) :: _) _ _; first | refine s_box 0 rfl rfl rfl rfl rfl rfl ?_ | fail) | fail) | (show OkC _ _ _ _ _; first | refine okc_imp (imp_sealL (dl := [2000000]) rfl) (ok_ret ?_) | refine ok_seq ?_ | refine ok_region ?_ | refine ok_skip ?_ | refine ok_ret ?_ | refine ok_cond rfl (fun h => ?_) (fun h => ?_) | fail) | (show thenQ _ _ _ _; first | refine then_n ?_ | refine then_r ?_ | fail) | (show RetQ _ _ _ _ _ _; first | refine ret_leaf (.inl rfl) rfl rfl ?_ | fail) | fail)
    all_goals first
      | rfl
      | (show AV.one (.d (.sl 1 16 (((usesF s []).map encNm).take (usesF s []).length))) = _
         rw [List.take_of_length_le (by simp)]; rfl)
      | (exfalso; simp_all; done)
      | trace_state
  · have hb : (formF s == 0) = false := by simp [h]
    rw [if_neg h]
    refine enter tabOk Tryz.func74 rfl (by decide +kernel) rfl fun hok w0 σ0 φ0 M => ?_
    clear hok
    repeat' (first | (show OkOps _ _ _ _ _ _; first | refine okops_nil ?_ | refine s_plain tabOk rfl rfl rfl rfl rfl ?_ | (show OkOps _ _ _ (Oper.mk _ (Op.call _) _ _ _ (_) :: _) _ _; first | refine s_callF rfl rfl rfl rfl rfl rfl rfl rfl (c77 _) rfl ?_ | fail) | (show OkOps _ _ _ (Oper.mk _ (Op.box _ _) _ _ _ (_) :: _) _ _; first | refine s_box 0 rfl rfl rfl rfl rfl rfl ?_ | fail) | fail) | (show OkC _ _ _ _ _; first | refine ok_seq ?_ | refine ok_region ?_ | refine ok_skip ?_ | refine ok_ret ?_ | refine ok_cond rfl (fun h => ?_) (fun h => ?_) | fail) | (show thenQ _ _ _ _; first | refine then_n ?_ | refine then_r ?_ | fail) | (show RetQ _ _ _ _ _ _; first | refine ret_leaf (.inl rfl) rfl rfl ?_ | fail) | fail)
    all_goals first
      | rfl
      | (exfalso; simp_all; done)
      | trace_state
end Go.Proofs.YtpejdgkaapnekaaGreat
namespace Go.Abs
open Go Go.Shelf Go.RowKit Go.Lib Go.Sort Go.Proofs
variable {P : Program} {σ : Sig} {φ : Pl} {w : World}
abbrev strR (zs : List (List UInt8)) : List (List D) := zs.map fun s => [D.str s]
theorem strRow {id b B cap n : Nat} {zs ys : List (List UInt8)} {d : Array (List UInt8)} {os : Array Obj} (hI : HInv σ φ [(id, .row 1 b (strR zs))] w) (hφ : φ id = some (B, cap)) (hn : zs ≠ [])
    (hd : d.size = zs.length) (hy : ys.length ≤ zs.length) (hyd : ∀ (i : Nat) (s : List UInt8), ys[i]? = some s → d[i]! = s) (h48' : ∀ s ∈ ys, s ∈ zs ∨ s = []) :
    HInv σ φ [(id, .row 1 b (strR ys))] (grow (putRow encStr (Sort.ahead w n) B 0 d) os) ∧ MOf φ [(id, AObj.row 1 b (strR zs))] B ∧
    Kept (MOf φ [(id, AObj.row 1 b (strR zs))]) w (grow (putRow encStr (Sort.ahead w n) B 0 d) os) := by
  have hlook : look [(id, AObj.row 1 b (strR zs))] id = some (.row 1 b (strR zs)) := by simp [look]
  rcases hI.obj id _ hlook with ⟨he, _⟩ | ⟨B', cap', arr, t, vf, hφ', hheap, hsz, hle, h48, hb47, hlen, hcell, hrep, hσ⟩
  · exact absurd (List.map_eq_nil_iff.1 he) hn
  rw [hφ] at hφ'; cases hφ'
  have hB : B < w.heap.size := (Array.getElem?_eq_some_iff.1 hheap).1
  have hmine : MOf φ [(id, AObj.row 1 b (strR zs))] B := ⟨id, _, _, hlook, hφ, rfl⟩
  have hother : ∀ b', b' < w.heap.size → b' ≠ B → (grow (putRow encStr (Sort.ahead w n) B 0 d) os).heap[b']? = w.heap[b']? := by
    intro b' hb' hne
    show ((putRow encStr (Sort.ahead w n) B 0 d).heap ++ os)[b']? = _
    rw [Array.getElem?_append_left (by rw [Go.Sort.size_putRow]; exact hb')]
    simp only [putRow, mapBlock, Array.getElem?_modify, if_neg (Ne.symm hne)]
    rfl
  have hrow : (grow (putRow encStr (Sort.ahead w n) B 0 d) os).heap[B]? = some (.cells (putCells encStr 0 d arr) t (0, 0)) := by
    show ((putRow encStr (Sort.ahead w n) B 0 d).heap ++ os)[B]? = _
    rw [Array.getElem?_append_left (by rw [Go.Sort.size_putRow]; exact hB)]
    simp only [putRow, mapBlock, Array.getElem?_modify, if_true]
    show (w.heap[B]?).map _ = _
    rw [hheap]; rfl
  simp only [List.length_map, Nat.mul_one] at hle h48 hb47 hcell hsz
  have hlen48 : ∀ s ∈ zs, s.length < 2 ^ 48 := by
    intro s hs
    obtain ⟨i, hi, rfl⟩ := List.mem_iff_getElem.1 hs
    have hr := hrep i 0 [.str zs[i]] (.str zs[i]) (by simp [strR, hi]) rfl
    generalize vf i 0 = v at hr
    cases hr with
    | str h => exact h
  refine ⟨⟨fun b' cs' hb => ?_, fun i e hi => ?_, fun i i' e e' p p' hi hi' hne => ?_⟩, hmine, ⟨rfl, rfl, rfl, ?_, Nat.le_add_right _ _, fun b' hb hM => hother b' hb (by rintro rfl; exact hM hmine)⟩⟩
  · obtain ⟨t', f', hh⟩ := hI.sig b' cs' hb
    refine ⟨t', f', ?_⟩
    rw [hother b' (Array.getElem?_eq_some_iff.1 hh).1 (by rintro rfl; rw [hσ] at hb; cases hb)]
    exact hh
  · rcases look_cons hi with ⟨rfl, rfl⟩ | ⟨_, hi⟩
    · refine .inr ⟨B, cap, putCells encStr 0 d arr, t, fun i _ => encStr d[i]!, hφ, hrow, by simp [putCells, hsz], by simp only [List.length_map]; omega, by simp only [List.length_map]; omega, ?_, fun x hx => ?_, fun i j hi hj => ?_, fun i j x dd hx hdd => ?_, hσ⟩
      · simp only [List.length_map]
        exact Nat.le_trans (Nat.mul_le_mul_right b hy) hb47
      · obtain ⟨c, _, rfl⟩ := List.mem_map.1 hx; rfl
      · simp only [List.length_map] at hi
        have hj0 : j = 0 := by omega
        subst hj0
        have hc := hcell i 0 (by omega) (by omega)
        simp only [putCells, Array.getElem?_mapIdx, Nat.mul_one, Nat.add_zero] at hc ⊢
        rw [hc]
        simp only [Option.map_some, Nat.zero_le, true_and, Nat.zero_add, Nat.sub_zero]
        rw [if_pos (by omega)]
      · rw [List.getElem?_map] at hx
        cases hs : ys[i]? with
        | none => rw [hs] at hx; simp at hx
        | some c =>
          rw [hs] at hx; simp at hx; subst hx
          cases j with
          | zero =>
            simp at hdd; subst hdd
            show Rep σ (.str c) (encStr d[i]!)
            rw [hyd i c hs]
            refine .str ?_
            rcases h48' c (List.mem_of_getElem? hs) with q | q
            · exact hlen48 c q
            · rw [q]; decide
          | succ j => simp at hdd
    · simp [look] at hi
  · rcases look_cons hi with ⟨rfl, _⟩ | ⟨_, hi⟩
    · rcases look_cons hi' with ⟨rfl, _⟩ | ⟨_, hi'⟩
      · exact absurd rfl hne
      · simp [look] at hi'
    · simp [look] at hi
  · show w.heap.size ≤ ((putRow encStr (Sort.ahead w n) B 0 d).heap ++ os).size
    rw [Array.size_append, Go.Sort.size_putRow]
    exact Nat.le_add_right _ _
theorem strRow_in {id b B cap : Nat} {zs : List (List UInt8)} (hI : HInv σ φ [(id, .row 1 b (strR zs))] w) (hφ : φ id = some (B, cap)) (hn : zs ≠ []) :
    Holds encStr w B 0 zs.toArray ∧ B < w.heap.size ∧ zs.length ≤ cap ∧ zs.length < 2 ^ 48 := by
  have hlook : look [(id, AObj.row 1 b (strR zs))] id = some (.row 1 b (strR zs)) := by simp [look]
  rcases hI.obj id _ hlook with ⟨he, _⟩ | ⟨B', cap', arr, t, vf, hφ', hheap, hsz, hle, h48, hb47, hlen, hcell, hrep, hσ⟩
  · exact absurd (List.map_eq_nil_iff.1 he) hn
  rw [hφ] at hφ'; cases hφ'
  simp only [List.length_map, Nat.mul_one] at hle h48 hb47 hcell hsz
  refine ⟨fun j hj => ?_, (Array.getElem?_eq_some_iff.1 hheap).1, hle, h48⟩
  have hj' : j < zs.length := by simpa using hj
  have hc := hcell j 0 hj' (by omega)
  have hr := hrep j 0 [.str zs[j]] (.str zs[j]) (by simp [strR, hj']) rfl
  have e : vf j 0 = encStr zs[j] := by
    generalize vf j 0 = v at hr
    cases hr with
    | str h => rfl
  rw [e] at hc
  simp only [Nat.mul_one, Nat.add_zero] at hc
  refine ⟨?_, ?_⟩
  · simp only [World.cell?, hheap, Nat.zero_add]
    rw [getElem!_pos zs.toArray j hj]
    simpa using hc
  · simp [World.frozen?, hheap]
theorem own_addr {id n b : Nat} {l : List (List D)} {v0 : Value} (hv0 : RepC σ φ [(id, AObj.row 1 b l)] (.own id n) v0) (hn : 0 < n) : ∃ B cap, v0 = .slice (some ⟨B, 0, none⟩) n cap ∧ φ id = some (B, cap) := by
  cases hv0 with
  | ownNil => omega
  | own _ _ hp => exact ⟨_, _, rfl, hp⟩
  | dead hx => simp [acIn, hasK, look] at hx
theorem own_none {id b : Nat} {l : List (List D)} {v0 : Value} (hv0 : RepC σ φ [(id, AObj.row 1 b l)] (.own id 0) v0) : ∃ p c, v0 = .slice p 0 c := by
  cases hv0 with
  | ownNil => exact ⟨_, _, rfl⟩
  | own => exact ⟨_, _, rfl⟩
  | dead hx => simp [acIn, hasK, look] at hx
theorem callA_sortS {ρ : Ren} (L : Lays.n190 P ρ) (hfn : ∃ fn, P.funcs[ρ.f 190]? = some fn ∧ (fn.name == "runtime.NumGoroutine") = false ∧ fn.body.isSome = true) (id b : Nat) (zs : List (List UInt8)) :
    CallA P (ρ.f 190) [.one (.own id zs.length)] [(id, .row 1 b (strR zs))] (.tup []) [(id, .row 1 b (strR (zs.mergeSort fun x y => decide (x ≤ y))))] := by
  refine ⟨hfn, fun w σ φ vs hI hA => ?_⟩
  match vs, hA with
  | [v0], hA =>
  obtain ⟨hv0, _⟩ := hA
  have hv0 : RepC σ φ _ (.own id zs.length) v0 := hv0
  by_cases hn : zs = []
  · subst hn
    obtain ⟨p, c, rfl⟩ := own_none hv0
    refine (Any.slices_Sort_string_none L p c w).mono ?_
    rintro e w' ⟨rfl, rfl⟩
    refine ⟨_, σ, φ, rfl, Sig.le_refl _, fun b hb => .inl hb, ?_, ⟨[], rfl, trivial⟩, fun i e p h1 h2 => .inr ⟨i, e, p, ?_, h2, rfl⟩, fun _ _ => rfl, ⟨rfl, rfl, rfl, Nat.le_refl _, Nat.le_refl _, fun _ _ _ => rfl⟩⟩
    · simpa using hI
    · simpa using h1
  · obtain ⟨B, cap, rfl, hφ⟩ := own_addr hv0 (List.length_pos_iff.2 hn)
    obtain ⟨hH, hB, hc, h48⟩ := strRow_in hI hφ hn
    have hS : Calls P (ρ.f 190) _ w _ := calls_of_every_depth fun D => AnyS.slices_Sort_string_alone L D B 0 cap zs w hH hB (by omega)
    refine Calls.mono hS ?_
    rintro e w' ⟨rfl, n, os, rfl⟩
    have hp : (zs.mergeSort fun x y => decide (x ≤ y)).Perm zs := List.mergeSort_perm _ _
    obtain ⟨h1, h2, h3⟩ := strRow (n := n) (os := os) (ys := zs.mergeSort fun x y => decide (x ≤ y)) (d := (zs.mergeSort fun x y => decide (x ≤ y)).toArray) hI hφ hn (by simp) (by simp) (fun i s hs => by
      rw [getElem!_pos _ i (by simpa using (List.getElem?_eq_some_iff.1 hs).1)]
      simpa using (List.getElem?_eq_some_iff.1 hs).2) (fun s hs => .inl (hp.mem_iff.1 hs))
    refine ⟨_, σ, φ, rfl, Sig.le_refl _, fun b hb => .inl hb, h1, ⟨[], rfl, trivial⟩, fun i e p hi hp' => .inr ?_, fun _ _ => rfl, h3⟩
    rcases look_cons hi with ⟨rfl, _⟩ | ⟨_, hi⟩
    · rw [hφ] at hp'; cases hp'; exact h2
    · simp [look] at hi
theorem compact_lenle (zs : List (List UInt8)) : (Lib.compact zs).length ≤ zs.length := by
  unfold Lib.compact compactUpTo
  rw [List.length_map]
  exact Nat.le_trans (List.length_filter_le _ _) (by simp)
theorem compact_sub {zs : List (List UInt8)} {s : List UInt8} (h : s ∈ Lib.compact zs) : s ∈ zs := by
  unfold Lib.compact compactUpTo at h
  obtain ⟨j, hj, rfl⟩ := List.mem_map.1 h
  have hj' : j < zs.length := List.mem_range.1 (List.mem_filter.1 hj).1
  rw [getElem!_pos _ j (by simpa using hj')]
  simp
theorem callA_compS {ρ : Ren} (L : Lays.n194 P ρ) (hfn : ∃ fn, P.funcs[ρ.f 194]? = some fn ∧ (fn.name == "runtime.NumGoroutine") = false ∧ fn.body.isSome = true) (id b : Nat) (zs : List (List UInt8)) :
    CallA P (ρ.f 194) [.one (.own id zs.length)] [(id, .row 1 b (strR zs))] (.one (.own id (Lib.compact zs).length)) [(id, .row 1 b (strR (Lib.compact zs ++ List.replicate (zs.length - (Lib.compact zs).length) [])))] := by
  refine ⟨hfn, fun w σ φ vs hI hA => ?_⟩
  match vs, hA with
  | [v0], hA =>
  obtain ⟨hv0, _⟩ := hA
  have hv0 : RepC σ φ _ (.own id zs.length) v0 := hv0
  by_cases hn : zs = []
  · subst hn
    have hn0 : Lib.compact ([] : List (List UInt8)) = [] := rfl
    have hv1 := hv0
    obtain ⟨p, c, rfl⟩ := own_none hv0
    have hS : Calls P (ρ.f 194) _ w _ := calls_of_every_depth fun D => AnyS.slices_Compact_string_empty_in L D p c w
    refine Calls.mono hS ?_
    rintro e w' ⟨rfl, rfl⟩
    rw [hn0]
    exact ⟨_, σ, φ, rfl, Sig.le_refl _, fun b hb => .inl hb, hI, hv1, fun i e p h1 h2 => .inr ⟨i, e, p, h1, h2, rfl⟩, fun _ _ => rfl, ⟨rfl, rfl, rfl, Nat.le_refl _, Nat.le_refl _, fun _ _ _ => rfl⟩⟩
  · obtain ⟨B, cap, rfl, hφ⟩ := own_addr hv0 (List.length_pos_iff.2 hn)
    obtain ⟨hH, hB, hc, h48⟩ := strRow_in hI hφ hn
    have hS : Calls P (ρ.f 194) _ w _ := calls_of_every_depth fun D => AnyS.slices_Compact_string_in L D B 0 cap zs w hH (by omega) hc
    refine Calls.mono hS ?_
    rintro e w' ⟨rfl, n, rfl⟩
    have hle := compact_lenle zs
    have hg : ∀ w : World, w = grow w #[] := fun w => by simp [grow]
    obtain ⟨h1, h2, h3⟩ := strRow (n := n) (os := #[]) (ys := Lib.compact zs ++ List.replicate (zs.length - (Lib.compact zs).length) []) (d := (Lib.compact zs ++ List.replicate (zs.length - (Lib.compact zs).length) []).toArray) hI hφ hn (by simp; omega) (by simp; omega) (fun i s hs => by
      have hi := (List.getElem?_eq_some_iff.1 hs).1
      rw [getElem!_pos _ i (by simpa using hi)]
      simp only [List.getElem_toArray]
      exact (List.getElem?_eq_some_iff.1 hs).2) (fun s hs => by
      rcases List.mem_append.1 hs with q | q
      · exact .inl (compact_sub q)
      · exact .inr (List.eq_of_mem_replicate q))
    rw [hg (putRow _ _ _ _ _)]
    refine ⟨_, σ, φ, rfl, Sig.le_refl _, fun b hb => .inl hb, h1, ?_, fun i e p hi hp' => .inr ?_, fun _ _ => rfl, h3⟩
    · exact RepC.own (xs := strR (Lib.compact zs ++ List.replicate (zs.length - (Lib.compact zs).length) [])) (b := b) (k := 1) (by simp [look]) (by simp) hφ
    · rcases look_cons hi with ⟨rfl, _⟩ | ⟨_, hi⟩
      · rw [hφ] at hp'; cases hp'; exact h2
      · simp [look] at hi
end Go.Abs
namespace Go.Proofs.YtpejdgkaapnekaaGreat
open Go Go.Proofs Go.Shelf
def sortS_ren : Go.Shelf.Ren := ⟨fun | 190 => 164 | 125 => 219 | 258 => 218 | 128 => 261 | 129 => 262 | 302 => 252 | 303 => 253 | 304 => 254 | 305 => 255 | 306 => 256 | 307 => 257 | 308 => 258 | 309 => 259 | 310 => 260 | 333 => 294 | 329 => 295 | 330 => 296 | 334 => 297 | 335 => 298 | 336 => 299 | 344 => 349 | n => n, fun | 31 => 45 | 9 => 9 | 3 => 3 | 46 => 192 | 0 => 0 | 51 => 251 | 53 => 253 | 4 => 4 | 183 => 244 | 182 => 243 | 131 => 119 | 5 => 5 | 218 => 278 | 222 => 282 | 228 => 302 | 229 => 303 | n => n, fun | n => n⟩
theorem sortS : Go.Proofs.Lays.n190 Tryz.prog sortS_ren := {
  mixed := by kernel_rfl
  f125 := Tryz.func219.trans (congrArg some (by kernel_rfl))
  f128 := Tryz.func261.trans (congrArg some (by kernel_rfl))
  f129 := Tryz.func262.trans (congrArg some (by kernel_rfl))
  f190 := Tryz.func164.trans (congrArg some (by kernel_rfl))
  f258 := Tryz.func218.trans (congrArg some (by kernel_rfl))
  f302 := Tryz.func252.trans (congrArg some (by kernel_rfl))
  f303 := Tryz.func253.trans (congrArg some (by kernel_rfl))
  f304 := Tryz.func254.trans (congrArg some (by kernel_rfl))
  f305 := Tryz.func255.trans (congrArg some (by kernel_rfl))
  f306 := Tryz.func256.trans (congrArg some (by kernel_rfl))
  f307 := Tryz.func257.trans (congrArg some (by kernel_rfl))
  f308 := Tryz.func258.trans (congrArg some (by kernel_rfl))
  f309 := Tryz.func259.trans (congrArg some (by kernel_rfl))
  f310 := Tryz.func260.trans (congrArg some (by kernel_rfl))
  f329 := Tryz.func295.trans (congrArg some (by kernel_rfl))
  f330 := Tryz.func296.trans (congrArg some (by kernel_rfl))
  f333 := Tryz.func294.trans (congrArg some (by kernel_rfl))
  f334 := Tryz.func297.trans (congrArg some (by kernel_rfl))
  f335 := Tryz.func298.trans (congrArg some (by kernel_rfl))
  f336 := Tryz.func299.trans (congrArg some (by kernel_rfl))
  f344 := Tryz.func349.trans (congrArg some (by kernel_rfl))
  t0 := Tryz.underlying0
  a0 := Tryz.isAgg0
  z0 := Tryz.sizeOf0
  v0 := Tryz.zeroValue0
  t3 := Tryz.underlying3
  a3 := Tryz.isAgg3
  z3 := Tryz.sizeOf3
  v3 := Tryz.zeroValue3
  t4 := Tryz.underlying4
  a4 := Tryz.isAgg4
  z4 := Tryz.sizeOf4
  v4 := Tryz.zeroValue4
  t5 := Tryz.underlying5
  a5 := Tryz.isAgg5
  z5 := Tryz.sizeOf5
  v5 := Tryz.zeroValue5
  t9 := Tryz.underlying9
  a9 := Tryz.isAgg9
  z9 := Tryz.sizeOf9
  v9 := Tryz.zeroValue9
  t31 := Tryz.underlying45
  a31 := Tryz.isAgg45
  z31 := Tryz.sizeOf45
  v31 := Tryz.zeroValue45
  t46 := Tryz.underlying192
  a46 := Tryz.isAgg192
  z46 := Tryz.sizeOf192
  v46 := Tryz.zeroValue192
  t51 := Tryz.underlying251
  a51 := Tryz.isAgg251
  z51 := Tryz.sizeOf251
  v51 := Tryz.zeroValue251
  t53 := Tryz.underlying253
  a53 := Tryz.isAgg253
  z53 := Tryz.sizeOf253
  v53 := Tryz.zeroValue253
  t131 := Tryz.underlying119
  a131 := Tryz.isAgg119
  z131 := Tryz.sizeOf119
  v131 := Tryz.zeroValue119
  t182 := Tryz.underlying243
  a182 := Tryz.isAgg243
  z182 := Tryz.sizeOf243
  v182 := Tryz.zeroValue243
  t183 := Tryz.underlying244
  a183 := Tryz.isAgg244
  z183 := Tryz.sizeOf244
  v183 := Tryz.zeroValue244
  t218 := Tryz.underlying278
  a218 := Tryz.isAgg278
  z218 := Tryz.sizeOf278
  v218 := Tryz.zeroValue278
  t222 := Tryz.underlying282
  a222 := Tryz.isAgg282
  z222 := Tryz.sizeOf282
  v222 := Tryz.zeroValue282
  t228 := Tryz.underlying302
  a228 := Tryz.isAgg302
  z228 := Tryz.sizeOf302
  v228 := Tryz.zeroValue302
  t229 := Tryz.underlying303
  a229 := Tryz.isAgg303
  z229 := Tryz.sizeOf303
  v229 := Tryz.zeroValue303 }
def compS_ren : Go.Shelf.Ren := ⟨fun | 194 => 165 | n => n, fun | 31 => 45 | 9 => 9 | 3 => 3 | 4 => 4 | 0 => 0 | n => n, fun | n => n⟩
theorem compS : Go.Proofs.Lays.n194 Tryz.prog compS_ren := {
  mixed := by kernel_rfl
  f194 := Tryz.func165.trans (congrArg some (by kernel_rfl))
  t0 := Tryz.underlying0
  a0 := Tryz.isAgg0
  z0 := Tryz.sizeOf0
  v0 := Tryz.zeroValue0
  t3 := Tryz.underlying3
  a3 := Tryz.isAgg3
  z3 := Tryz.sizeOf3
  v3 := Tryz.zeroValue3
  t4 := Tryz.underlying4
  a4 := Tryz.isAgg4
  z4 := Tryz.sizeOf4
  v4 := Tryz.zeroValue4
  t9 := Tryz.underlying9
  a9 := Tryz.isAgg9
  z9 := Tryz.sizeOf9
  v9 := Tryz.zeroValue9
  t31 := Tryz.underlying45
  a31 := Tryz.isAgg45
  z31 := Tryz.sizeOf45
  v31 := Tryz.zeroValue45 }
end Go.Proofs.YtpejdgkaapnekaaGreat
namespace Go.Proofs.YtpejdgkaapnekaaGreat
open Go Go.Abs
attribute [local irreducible] OkOps OkC DRun thenQ blockQ RetQ OkR normQ RoundQ AssignQ retQ
set_option maxRecDepth 10000
theorem c164 (id b : Nat) (zs : List (List UInt8)) : CallA Tryz.prog 164 [.one (.own id zs.length)] [(id, .row 1 b (strR zs))] (.tup []) [(id, .row 1 b (strR (zs.mergeSort fun x y => decide (x ≤ y))))] :=
  callA_sortS sortS ⟨Tryz.f164, Tryz.func164, by kernel_rfl, by kernel_rfl⟩ id b zs
theorem c165 (id b : Nat) (zs : List (List UInt8)) : CallA Tryz.prog 165 [.one (.own id zs.length)] [(id, .row 1 b (strR zs))] (.one (.own id (Lib.compact zs).length)) [(id, .row 1 b (strR (Lib.compact zs ++ List.replicate (zs.length - (Lib.compact zs).length) [])))] :=
  callA_compS compS ⟨Tryz.f165, Tryz.func165, by kernel_rfl, by kernel_rfl⟩ id b zs
theorem c164e (id n : Nat) (zs : List (List UInt8)) (rows : List (List D)) (hr : rows = strR zs) (hn : n = zs.length) : CallA Tryz.prog 164 [.one (.own id n)] [(id, .row 1 16 rows)] (.tup []) [(id, .row 1 16 (strR (zs.mergeSort fun x y => decide (x ≤ y))))] := by
  subst hr; subst hn; exact c164 id 16 zs
theorem c165e (id n : Nat) (zs : List (List UInt8)) (rows : List (List D)) (hr : rows = strR zs) (hn : n = zs.length) : CallA Tryz.prog 165 [.one (.own id n)] [(id, .row 1 16 rows)] (.one (.own id (Lib.compact zs).length)) [(id, .row 1 16 (strR (Lib.compact zs ++ List.replicate (zs.length - (Lib.compact zs).length) [])))] := by
  subst hr; subst hn; exact c165 id 16 zs
theorem s_sortS {w0 : World} {σ0 : Sig} {φ0 : Pl} {M : Nat → Prop} {n : Nat} {rd : Option Nat} {mk : List Deferred} {ops : Array Oper} {o : Oper} {rest : List Oper} {fr : List (Nat × AV)} {sto : Sto} {K : St → Prop} {d m : Nat} {fop x : Operand} {ats : Array TypeId} {rows : List (List D)} (id : Nat) (zs : List (List UInt8))
    (ho : o.op = .call { callee := .value fop, args := ⟨[x]⟩, argTypes := ats }) (hg : o.guard = none) (hdst : o.dst = some d) (hdn : Nat.blt d n = true) (hf : ev ⟨fr, sto⟩ fop = some (.one (.d (.fn 164 [])))) (hx : ev ⟨fr, sto⟩ x = some (.one (.own id m)))
    (hl : Abs.look sto id = some (.row 1 16 rows)) (hr : rows = strR zs) (hn : m = zs.length) (hfr : freshRB 40 ⟨fr, sto⟩ = true)
    (h : OkOps Tryz.prog ⟨w0, σ0, φ0, M, n, rd, mk⟩ ops rest ⟨(d, .tup []) :: fr, setS id (.row 1 16 (strR (zs.mergeSort fun x y => decide (x ≤ y)))) (del id sto)⟩ K) : OkOps Tryz.prog ⟨w0, σ0, φ0, M, n, rd, mk⟩ ops (o :: rest) ⟨fr, sto⟩ K := by
  refine s_callM 40 [(1000000, id)] (rav' := .tup []) (sto' := setS id (.row 1 16 (strR (zs.mergeSort fun x y => decide (x ≤ y)))) (del id sto)) (c164e 1000000 m zs rows hr hn) ho hg hdst hdn hf ?_ ⟨⟨id, rfl, hl⟩, trivial⟩ ⟨fun i e h1 h2 => ?_, trivial⟩ rfl hfr rfl rfl h
  · show evL ⟨fr, sto⟩ [x] = _
    simp only [evL, hx]
    rfl
  · have e1 : some id = some i := h1
    cases e1
    rw [hl] at h2
    cases h2
    refine ⟨rfl, rfl, ?_⟩
    rw [hr, List.length_map, List.length_map, List.length_mergeSort]
    exact Nat.le_refl _
theorem s_compS {w0 : World} {σ0 : Sig} {φ0 : Pl} {M : Nat → Prop} {n : Nat} {rd : Option Nat} {mk : List Deferred} {ops : Array Oper} {o : Oper} {rest : List Oper} {fr : List (Nat × AV)} {sto : Sto} {K : St → Prop} {d m : Nat} {fop x : Operand} {ats : Array TypeId} {rows : List (List D)} (id : Nat) (zs : List (List UInt8))
    (ho : o.op = .call { callee := .value fop, args := ⟨[x]⟩, argTypes := ats }) (hg : o.guard = none) (hdst : o.dst = some d) (hdn : Nat.blt d n = true) (hf : ev ⟨fr, sto⟩ fop = some (.one (.d (.fn 165 [])))) (hx : ev ⟨fr, sto⟩ x = some (.one (.own id m)))
    (hl : Abs.look sto id = some (.row 1 16 rows)) (hr : rows = strR zs) (hn : m = zs.length) (hfr : freshRB 40 ⟨fr, sto⟩ = true)
    (h : OkOps Tryz.prog ⟨w0, σ0, φ0, M, n, rd, mk⟩ ops rest ⟨(d, .one (.own id (Lib.compact zs).length)) :: fr, setS id (.row 1 16 (strR (Lib.compact zs ++ List.replicate (zs.length - (Lib.compact zs).length) []))) (del id sto)⟩ K) : OkOps Tryz.prog ⟨w0, σ0, φ0, M, n, rd, mk⟩ ops (o :: rest) ⟨fr, sto⟩ K := by
  refine s_callM 40 [(1000000, id)] (rav' := .one (.own id (Lib.compact zs).length)) (sto' := setS id (.row 1 16 (strR (Lib.compact zs ++ List.replicate (zs.length - (Lib.compact zs).length) []))) (del id sto)) (c165e 1000000 m zs rows hr hn) ho hg hdst hdn hf ?_ ⟨⟨id, rfl, hl⟩, trivial⟩ ⟨fun i e h1 h2 => ?_, trivial⟩ rfl hfr rfl rfl h
  · show evL ⟨fr, sto⟩ [x] = _
    simp only [evL, hx]
    rfl
  · have e1 : some id = some i := h1
    cases e1
    rw [hl] at h2
    cases h2
    refine ⟨rfl, rfl, ?_⟩
    have := compact_lenle zs
    rw [hr, List.length_map, List.length_map]
    simp only [List.length_append, List.length_replicate]
    omega
def namesL (l : List Scalar) : List (List UInt8) := (l.filter namedF).map Scalar.name
def F73 (a : List (List UInt8)) (x : Scalar) : Bool × List (List UInt8) := (true, if namedF x then a ++ [x.name] else a)
def ok73 (a : List (List UInt8)) (x : Scalar) : Prop := a.length ≤ 1000
theorem run73 : ∀ (l : List Scalar) (a : List (List UInt8)), a.length + l.length ≤ 1000 → OkRun F73 ok73 l a ∧ runF F73 l a = (true, a ++ namesL l)
  | [], a, h => ⟨trivial, by simp [runF, namesL]⟩
  | x :: l, a, h => by
    simp only [List.length_cons] at h
    have hl : (F73 a x).2.length + l.length ≤ 1000 := by
      simp only [F73]
      split
      · simp only [List.length_append, List.length_singleton]; omega
      · omega
    have ih := run73 l (F73 a x).2 hl
    refine ⟨⟨by show a.length ≤ 1000; omega, fun _ => ih.1⟩, ?_⟩
    have e : runF F73 (x :: l) a = runF F73 l (F73 a x).2 := by simp [runF, F73]
    rw [e, ih.2]
    simp only [F73, namesL, List.filter_cons]
    split <;> simp
def sto73 (li : LI) (fr : List (Nat × AV)) (r : Nat) (a : List (List UInt8)) : Sto :=
  [(1000000, .loop li fr .ready none), (1000001, .box [.own r a.length]), (r, .row 1 16 (a.map encNm))]
theorem fam73 (li : LI) (fr : List (Nat × AV)) (hf : ∀ a, frIn (sto73 li fr 2000000 a) fr = true) : FamW (sto73 li fr 2000000) := by
  refine ⟨fun a i e h => ?_, fun a => ?_, fun a => ⟨li, fr, .ready, none, rfl⟩, fun a => rfl⟩
  · unfold sto73 at h
    rcases look_cons h with ⟨rfl, _⟩ | ⟨_, h⟩
    · omega
    rcases look_cons h with ⟨rfl, _⟩ | ⟨_, h⟩
    · omega
    rcases look_cons h with ⟨rfl, _⟩ | ⟨_, h⟩
    · omega
    · exact nomatch h
  · show (frIn (sto73 li fr 2000000 a) fr && _) = true
    rw [hf a]; rfl
theorem y73 {li : LI} {fr : List (Nat × AV)} (a : List (List UInt8)) (x : Scalar) (hok : ok73 a x)
    (hps : (allBlt li.n li.params.toList && Nat.beq li.params.toList.length 1) = true)
    (h : ∀ (w0 : World) (σ0 : Sig) (φ0 : Pl) (M : Nat → Prop) (B : Nat), OkC Tryz.prog ⟨w0, σ0, φ0, M, li.n, some B, []⟩ li.assign ⟨roundFr li.params.toList [aggS x] fr, sto73 li fr 2000000 a⟩
      (AssignQ Tryz.prog 1000000 ⟨w0, σ0, φ0, M, li.n, some B, []⟩ li.body (.one (.d (.bool (F73 a x).1))) (sto73 li fr 2000000 (F73 a x).2))) :
    YieldA Tryz.prog 1000000 [aggS x] (sto73 li fr 2000000 a) (.one (.d (.bool (F73 a x).1))) (sto73 li fr 2000000 (F73 a x).2) :=
  yieldA_ok ⟨by omega, by omega⟩ rfl hps (h)
theorem leaf73 {sto : Sto} {li : LI} {fr : List (Nat × AV)} {a : List (List UInt8)} {n : List UInt8} (h1 : Abs.look sto 1000000 = some (.loop li fr .ready none)) (h2 : Abs.look sto 1000001 = some (.box [.own 2000000 (a.length + 1)]))
    (h3 : Abs.look sto 2000000 = some (.row 1 16 ((a.map encNm).take a.length ++ [[.str n]]))) : SubL sto (sto73 li fr 2000000 (a ++ [n])) := by
  refine ⟨h1, ?_, ?_, trivial⟩
  · rw [h2]; simp
  · rw [h3, List.take_of_length_le (by simp)]; simp [encNm]
def q73 (i : Nat) : Nat := bif Nat.beq i 1000002 then 2000000 else i
def p73 (i : Nat) : Nat := bif Nat.beq i 2000000 then 5 else i
def usesP (s : Scalar) : List (List UInt8) := Lib.compact ((namesL (postL s)).mergeSort fun x y => decide (x ≤ y))
def usesPV (s : Scalar) : AV := if formF s = 0 then .one (.d (encNms (usesP s))) else .one (.d .nil)
set_option maxHeartbeats 1000000 in
theorem c73 (s : Scalar) : CallA Tryz.prog 73 [aggS s] [] (usesPV s) [] := by
  unfold usesPV
  by_cases hf : formF s = 0
  · have hb : (formF s != 0) = false := by simp [hf]
    have hsz := (form_ok hf).2
    obtain ⟨h0, hR⟩ := run73 (postL s) [] (by simp; omega)
    rw [if_pos hf]
    refine enter tabOk Tryz.func73 rfl (by decide +kernel) rfl fun hok w0 σ0 φ0 M => ?_
    clear hok
    repeat' (first | (show OkOps _ _ _ _ _ _; first | refine okops_nil ?_ | refine s_plain tabOk rfl rfl rfl rfl rfl ?_ | (show OkOps _ _ _ (Oper.mk _ (Op.call _) _ _ _ (_) :: _) _ _; first | refine s_callF rfl rfl rfl rfl rfl rfl rfl rfl (c87 _) rfl ?_ | refine s_callD 16 rfl rfl rfl rfl rfl rfl rfl rfl (c162 _) rfl rfl rfl ?_ | fail) | (show OkOps _ _ _ (Oper.mk _ (Op.box _ _) _ _ _ (_) :: _) _ _; first | refine s_box 0 rfl rfl rfl rfl rfl rfl ?_ | fail) | (show OkOps _ _ _ (Oper.mk _ (Op.alloc _) _ _ _ (_) :: _) _ _; first | refine s_alloc tabOk 1 rfl rfl rfl rfl rfl ?_ | fail) | fail) | (show OkC _ _ _ _ _; first | refine ok_stopR2 ?_ | refine ok_seq ?_ | refine ok_region ?_ | refine ok_skip ?_ | refine ok_condKF rfl (by assumption) ?_ | fail) | (show thenQ _ _ _ _; first | refine then_n ?_ | fail) | (show normQ _ _ _; first | refine norm_n ?_ | fail) | fail)
    all_goals (try (exfalso; simp_all; done))
    have hC := fun li fr hf hY => c216 (sto73 li fr 2000000) (fam73 li fr hf) F73 ok73 hY s [] h0
    rw [hR] at hC
    refine okR_imp (imp_adoptB 1 5 (k := 1) (b := 16) rfl rfl) ?_
    refine ok_rangeS (f := 216) (caps := [.ptr (rowS s)]) (rav := .tup []) [1, 5] 10 rfl rfl rfl rfl (callA_ren q73 p73 (hC _ _ (fun a => ?_) (fun a x hok => ?_)) rfl rfl rfl rfl rfl rfl rfl) rfl (fun h => ?_) (fun h => ?_)
    · rfl
    · refine y73 a x hok rfl fun w0 σ0 φ0 M B => ?_
      clear hC hR h0
      by_cases hn : namedF x = true
      · have e : F73 a x = (true, a ++ [x.name]) := by simp [F73, hn]
        rw [e]
        repeat' (first | (show OkOps _ _ _ _ _ _; first | (show OkOps _ _ _ (Oper.mk _ (Op.call _) _ _ _ (_) :: _) _ _; first | refine s_append tabOk rfl rfl rfl rfl rfl rfl rfl rfl rfl rfl rfl rfl rfl (by show List.length a ≤ 100000000; have hok' : a.length ≤ 1000 := hok; omega) (Nat.le_of_ble_eq_true rfl) (Nat.le_of_ble_eq_true rfl) ?_ | fail) | refine okops_nil ?_ | refine s_plain tabOk rfl rfl rfl rfl rfl ?_ | (show OkOps _ _ _ (Oper.mk _ (Op.call _) _ _ _ (_) :: _) _ _; first | refine s_callF rfl rfl rfl rfl rfl rfl rfl rfl (c163 _) rfl ?_ | fail) | (show OkOps _ _ _ (Oper.mk _ (Op.alloc _) _ _ _ (_) :: _) _ _; first | refine s_alloc tabOk 0 rfl rfl rfl rfl rfl ?_ | fail) | refine s_store envOk rfl rfl rfl ?_ | refine s_new envOk 1 rfl rfl rfl rfl rfl rfl ?_ | fail) | (show OkC _ _ _ _ _; first | refine ok_seq ?_ | refine ok_region ?_ | refine ok_block ?_ | refine ok_condKT rfl (by assumption) ?_ | fail) | (show thenQ _ _ _ _; first | refine then_n ?_ | fail) | (show blockQ _ _ _ _; first | refine block_n ?_ | fail) | (show RoundQ _ _ _ _ _; first | refine round_n rfl ?_ ?_ | fail) | (show AssignQ _ _ _ _ _ _ _ _; first | refine assign_n rfl ?_ | fail) | fail)
        · rfl
        · exact leaf73 (by kernel_rfl) (by kernel_rfl) (by kernel_rfl)
      · have hn : namedF x = false := by simpa using hn
        have e : F73 a x = (true, a) := by simp [F73, hn]
        rw [e]
        repeat' (first | (show OkOps _ _ _ _ _ _; first | refine okops_nil ?_ | refine s_plain tabOk rfl rfl rfl rfl rfl ?_ | (show OkOps _ _ _ (Oper.mk _ (Op.call _) _ _ _ (_) :: _) _ _; first | refine s_callF rfl rfl rfl rfl rfl rfl rfl rfl (c163 _) rfl ?_ | fail) | (show OkOps _ _ _ (Oper.mk _ (Op.alloc _) _ _ _ (_) :: _) _ _; first | refine s_alloc tabOk 0 rfl rfl rfl rfl rfl ?_ | fail) | refine s_store envOk rfl rfl rfl ?_ | fail) | (show OkC _ _ _ _ _; first | refine ok_seq ?_ | refine ok_region ?_ | refine ok_block ?_ | refine ok_skip ?_ | refine ok_condKF rfl (by assumption) ?_ | fail) | (show thenQ _ _ _ _; first | refine then_n ?_ | fail) | (show blockQ _ _ _ _; first | refine block_n ?_ | fail) | (show RoundQ _ _ _ _ _; first | refine round_n rfl ?_ ?_ | fail) | (show AssignQ _ _ _ _ _ _ _ _; first | refine assign_n rfl ?_ | fail) | fail)
        · rfl
        · exact subL_cons (by kernel_rfl) (subL_cons (by kernel_rfl) (subL_cons (by kernel_rfl) subL_nil))
    · rintro ⟨w1, σ1, φ1, M1, n1, rd1, mk1⟩ ⟨hn, hrd, _⟩
      dsimp only at hn hrd
      subst hn hrd
      clear hC hR h0
      refine okc_imp (imp_sub (f' := [(3, .one (.ref 1 0))]) (s' := [(1, .box [.own 16 (namesL (postL s)).length]), (16, .row 1 16 (strR (namesL (postL s))))]) (subL_cons (by kernel_rfl) subL_nil) (subL_cons (by kernel_rfl) (subL_cons (by kernel_rfl) subL_nil))) ?_
      repeat' (first | (show OkOps _ _ _ _ _ _; first | (show OkOps _ _ _ (Oper.mk _ (Op.call _) _ _ _ (_) :: _) _ _; first | refine s_sortS 16 (namesL (postL s)) rfl rfl rfl rfl rfl rfl rfl rfl rfl rfl ?_ | fail) | (show OkOps _ _ _ (Oper.mk _ (Op.call _) _ _ _ (_) :: _) _ _; first | refine s_compS 16 _ rfl rfl rfl rfl rfl rfl rfl rfl (by simp) rfl ?_ | fail) | refine okops_nil ?_ | refine s_plain tabOk rfl rfl rfl rfl rfl ?_ | fail) | (show OkC _ _ _ _ _; first | refine okc_imp (imp_sealL (dl := [16]) rfl) (ok_ret ?_) | refine ok_seq ?_ | refine ok_region ?_ | fail) | (show thenQ _ _ _ _; first | refine then_n ?_ | fail) | (show RetQ _ _ _ _ _ _; first | refine ret_leaf (.inl rfl) rfl rfl ?_ | fail) | (show retQ _ _ _; first | refine retq_n ?_ | fail) | fail)
      show AV.one (.d (.sl 1 16 ((strR (usesP s ++ List.replicate (((namesL (postL s)).mergeSort fun x y => decide (x ≤ y)).length - (usesP s).length) [])).take (usesP s).length))) = _
      rw [← List.map_take, List.take_left]; rfl
    · exact absurd h (by simp [sto73])
  · have hb : (formF s != 0) = true := by simp [hf]
    rw [if_neg hf]
    refine enter tabOk Tryz.func73 rfl (by decide +kernel) rfl fun hok w0 σ0 φ0 M => ?_
    clear hok
    repeat' (first | (show OkOps _ _ _ _ _ _; first | refine okops_nil ?_ | refine s_plain tabOk rfl rfl rfl rfl rfl ?_ | (show OkOps _ _ _ (Oper.mk _ (Op.call _) _ _ _ (_) :: _) _ _; first | refine s_callF rfl rfl rfl rfl rfl rfl rfl rfl (c87 _) rfl ?_ | fail) | (show OkOps _ _ _ (Oper.mk _ (Op.box _ _) _ _ _ (_) :: _) _ _; first | refine s_box 0 rfl rfl rfl rfl rfl rfl ?_ | fail) | fail) | (show OkC _ _ _ _ _; first | refine ok_seq ?_ | refine ok_region ?_ | refine ok_ret ?_ | refine ok_condKT rfl (by assumption) ?_ | fail) | (show thenQ _ _ _ _; first | refine then_n ?_ | refine then_r ?_ | fail) | (show RetQ _ _ _ _ _ _; first | refine ret_leaf (.inl rfl) rfl rfl ?_ | fail) | fail)
    all_goals first
      | rfl
      | (exfalso; simp_all; done)
      | trace_state
end Go.Proofs.YtpejdgkaapnekaaGreat
namespace Go.Proofs.YtpejdgkaapnekaaGreat
open Go Go.Abs
abbrev Nm := List UInt8
theorem nm_lt {x y : Nm} (h : x ≤ y) (hn : x ≠ y) : x < y := by
  refine Decidable.byContradiction fun hc => hn ?_
  exact List.le_antisymm h (List.not_lt.1 hc)
theorem nm_irr {x : Nm} : ¬ x < x := List.lt_irrefl x
theorem ins_gt {x n : Nm} (h : (!(Op.bytesLess x n || x == n)) = true) : n < x := by
  rw [bytesLess_eq] at h
  simp only [Bool.not_eq_true', Bool.or_eq_false_iff, decide_eq_false_iff_not, beq_eq_false_iff_ne] at h
  exact nm_lt (List.not_lt.1 h.1) (fun e => h.2 e.symm)
theorem ins_lt {x n : Nm} (h : ¬ (!(Op.bytesLess x n || x == n)) = true) (hn : ¬ (x == n) = true) : x < n := by
  rw [bytesLess_eq] at h
  simp_all
theorem ins_mem {n y : Nm} : ∀ {l : List Nm}, y ∈ insF l n ↔ y ∈ l ∨ y = n
  | [] => by simp [insF]
  | x :: r => by
    have ih := ins_mem (n := n) (y := y) (l := r)
    simp only [insF]
    split
    · rename_i h
      have e : x = n := by simpa using h
      subst e
      simp only [List.mem_cons]
      exact ⟨fun h => .inl h, fun h => h.elim id fun h => .inl h⟩
    · split
      · simp only [List.mem_cons]
        exact ⟨fun h => h.elim .inr .inl, fun h => h.elim .inr .inl⟩
      · simp only [List.mem_cons, ih]
        exact ⟨fun h => h.elim (fun h => .inl (.inl h)) fun h => h.elim (fun h => .inl (.inr h)) .inr, fun h => h.elim (fun h => h.elim .inl fun h => .inr (.inl h)) fun h => .inr (.inr h)⟩
theorem ins_sorted {n : Nm} : ∀ {l : List Nm}, l.Pairwise (· < ·) → (insF l n).Pairwise (· < ·)
  | [], _ => by simp [insF]
  | x :: r, h => by
    obtain ⟨h1, h2⟩ := List.pairwise_cons.1 h
    have ih := ins_sorted (n := n) h2
    simp only [insF]
    split
    · exact h
    · rename_i hne
      split
      · rename_i hg
        refine List.pairwise_cons.2 ⟨fun y hy => ?_, h⟩
        rcases List.mem_cons.1 hy with rfl | hy
        · exact ins_gt hg
        · exact List.lt_trans (ins_gt hg) (h1 y hy)
      · rename_i hg
        refine List.pairwise_cons.2 ⟨fun y hy => ?_, ih⟩
        rcases ins_mem.1 hy with hy | rfl
        · exact h1 y hy
        · exact ins_lt hg hne
theorem names_app {a b : List Scalar} : namesL (a ++ b) = namesL a ++ namesL b := by simp [namesL]
mutual
theorem uses_ok : ∀ (s : Scalar) (l : List Nm), l.Pairwise (· < ·) → (usesF s l).Pairwise (· < ·) ∧ ∀ y, y ∈ usesF s l ↔ y ∈ l ∨ y ∈ namesL (postL s)
  | .mk o n v a, l, h => by
    have e : namesL [Scalar.mk o n v a] = if (o == 2 || o == 3) = true then [n] else [] := by
      simp only [namesL, List.filter_cons, List.filter_nil, namedF, Scalar.op]
      split
      · simp [Scalar.name, *]
      · simp [*]
    by_cases hc : (o == 2 || o == 3) = true
    · have ih := usesL_ok a (insF l n) (ins_sorted h)
      simp only [usesF, postL, names_app, e, hc, if_true]
      refine ⟨ih.1, fun y => ?_⟩
      rw [ih.2, ins_mem, List.mem_append, List.mem_singleton]
      exact ⟨fun h => h.elim (fun h => h.elim .inl fun h => .inr (.inr h)) fun h => .inr (.inl h), fun h => h.elim (fun h => .inl (.inl h)) fun h => h.elim .inr fun h => .inl (.inr h)⟩
    · have ih := usesL_ok a l h
      simp only [usesF, postL, names_app, e, hc, if_false, Bool.false_eq_true]
      refine ⟨ih.1, fun y => ?_⟩
      rw [ih.2, List.append_nil]
theorem usesL_ok : ∀ (a : List Scalar) (l : List Nm), l.Pairwise (· < ·) → (usesL a l).Pairwise (· < ·) ∧ ∀ y, y ∈ usesL a l ↔ y ∈ l ∨ y ∈ namesL (postLs a)
  | [], l, h => ⟨h, fun y => by simp [usesL, postLs, namesL]⟩
  | x :: r, l, h => by
    have h1 := uses_ok x l h
    have h2 := usesL_ok r (usesF x l) h1.1
    simp only [usesL, postLs, names_app]
    refine ⟨h2.1, fun y => ?_⟩
    rw [h2.2, h1.2, List.mem_append, or_assoc]
end
theorem nm_uniq : ∀ {l m : List Nm}, l.Pairwise (· < ·) → m.Pairwise (· < ·) → (∀ y, y ∈ l ↔ y ∈ m) → l = m
  | [], [], _, _, _ => rfl
  | [], y :: t, _, _, h => absurd ((h y).2 List.mem_cons_self) (by simp)
  | x :: r, [], _, _, h => absurd ((h x).1 List.mem_cons_self) (by simp)
  | x :: r, y :: t, hl, hm, h => by
    obtain ⟨l1, l2⟩ := List.pairwise_cons.1 hl
    obtain ⟨m1, m2⟩ := List.pairwise_cons.1 hm
    have e : x = y := by
      rcases List.mem_cons.1 ((h x).1 List.mem_cons_self) with e | hx
      · exact e
      · rcases List.mem_cons.1 ((h y).2 List.mem_cons_self) with e | hy
        · exact e.symm
        · exact absurd (List.lt_trans (l1 y hy) (m1 x hx)) nm_irr
    subst e
    congr 1
    refine nm_uniq l2 m2 fun z => ⟨fun hz => ?_, fun hz => ?_⟩
    · rcases List.mem_cons.1 ((h z).1 (List.mem_cons_of_mem _ hz)) with rfl | hz'
      · exact absurd (l1 _ hz) nm_irr
      · exact hz'
    · rcases List.mem_cons.1 ((h z).2 (List.mem_cons_of_mem _ hz)) with rfl | hz'
      · exact absurd (m1 _ hz) nm_irr
      · exact hz'
theorem comp_ok {d : Array Nm} (hd : ∀ i j, i < j → j < d.size → d[i]! ≤ d[j]!) : ∀ m, m ≤ d.size → (Lib.compactUpTo d m).Pairwise (· < ·) ∧ (∀ y, y ∈ Lib.compactUpTo d m ↔ ∃ j, j < m ∧ y = d[j]!)
  | 0, _ => by simp [Lib.compactUpTo]
  | m + 1, hm => by
    obtain ⟨i1, i2⟩ := comp_ok hd m (by omega)
    rw [Lib.compactUpTo_succ]
    by_cases hk : Lib.keeps d m = true
    · rw [if_pos hk]
      have hk' : m = 0 ∨ d[m]! ≠ d[m - 1]! := by simpa [Lib.keeps] using hk
      refine ⟨List.pairwise_append.2 ⟨i1, by simp, fun y hy z hz => ?_⟩, fun y => ?_⟩
      · rw [List.mem_singleton.1 hz]
        obtain ⟨j, hj, rfl⟩ := (i2 y).1 hy
        rcases hk' with hk' | hk'
        · omega
        · have h1 : d[m - 1]! < d[m]! := nm_lt (hd _ _ (by omega) (by omega)) (fun e => hk' e.symm)
          rcases Nat.lt_or_ge j (m - 1) with hj' | hj'
          · exact List.lt_of_le_of_lt (hd j (m - 1) hj' (by omega)) h1
          · have : j = m - 1 := by omega
            subst this; exact h1
      · rw [List.mem_append, i2, List.mem_singleton]
        constructor
        · rintro (⟨j, hj, rfl⟩ | rfl)
          · exact ⟨j, by omega, rfl⟩
          · exact ⟨m, by omega, rfl⟩
        · rintro ⟨j, hj, rfl⟩
          rcases Nat.lt_or_ge j m with h | h
          · exact .inl ⟨j, h, rfl⟩
          · have : j = m := by omega
            subst this; exact .inr rfl
    · rw [if_neg hk, List.append_nil]
      have hk' : ¬ m = 0 ∧ d[m]! = d[m - 1]! := by simpa [Lib.keeps] using hk
      refine ⟨i1, fun y => ?_⟩
      rw [i2]
      constructor
      · rintro ⟨j, hj, rfl⟩; exact ⟨j, by omega, rfl⟩
      · rintro ⟨j, hj, rfl⟩
        rcases Nat.lt_or_ge j m with h | h
        · exact ⟨j, h, rfl⟩
        · have : j = m := by omega
          subst this; exact ⟨j - 1, by omega, hk'.2⟩
theorem usesP_ok (zs : List Nm) : (Lib.compact (zs.mergeSort fun x y => decide (x ≤ y))).Pairwise (· < ·) ∧ ∀ y, y ∈ Lib.compact (zs.mergeSort fun x y => decide (x ≤ y)) ↔ y ∈ zs := by
  have hs : (zs.mergeSort fun x y => decide (x ≤ y)).Pairwise (fun x y => decide (x ≤ y) = true) := List.pairwise_mergeSort (fun a b c h1 h2 => by
    simp only [decide_eq_true_eq] at *; exact List.le_trans h1 h2) (fun a b => by simpa using List.le_total a b) zs
  have hp : ∀ y, y ∈ (zs.mergeSort fun x y => decide (x ≤ y)) ↔ y ∈ zs := fun y => (List.mergeSort_perm _ _).mem_iff
  generalize (zs.mergeSort fun x y => decide (x ≤ y)) = ys at hs hp ⊢
  have hd : ∀ i j, i < j → j < ys.toArray.size → ys.toArray[i]! ≤ ys.toArray[j]! := by
    intro i j hij hj
    have hj' : j < ys.length := by simpa using hj
    rw [getElem!_pos _ i (by simp; omega), getElem!_pos _ j hj]
    simpa using List.pairwise_iff_getElem.1 hs i j (by omega) hj' hij
  obtain ⟨h1, h2⟩ := comp_ok hd ys.length (by simp)
  refine ⟨h1, fun y => ?_⟩
  rw [← hp]
  refine (h2 y).trans ⟨?_, fun h => ?_⟩
  · rintro ⟨j, hj, rfl⟩
    rw [getElem!_pos _ j (by simpa using hj)]
    simp
  · obtain ⟨j, hj, rfl⟩ := List.mem_iff_getElem.1 h
    exact ⟨j, hj, by rw [getElem!_pos _ j (by simpa using hj)]; simp⟩
theorem uses_same (s : Scalar) : usesP s = usesF s [] := by
  obtain ⟨h1, h2⟩ := usesP_ok (namesL (postL s))
  obtain ⟨h3, h4⟩ := uses_ok s [] .nil
  exact nm_uniq h1 h3 fun y => by
    show y ∈ Lib.compact _ ↔ _
    rw [h2, h4]; simp
theorem part_ren {f t : Nm} : ∀ {s : Scalar}, partF (renS f t s) = partF s
  | .mk o n v a => by
    simp only [renS, partF, Scalar.op, Scalar.name, Scalar.val, Scalar.args, renSs_map, List.length_map]
    by_cases h1 : o = 1
    · subst h1; rfl
    · by_cases h2 : o = 2 ∨ o = 3
      · simp only [h1, h2, if_true, if_false]
      · have hc : ((o == 2 || o == 3) && n == f) = false := by
          have h3 : (o == 2 || o == 3) = false := by simpa using h2
          rw [h3]; rfl
        rw [hc]; rfl
mutual
theorem post_ren {f t : Nm} : ∀ (s : Scalar), postL (renS f t s) = (postL s).map (renS f t)
  | .mk o n v a => by
    simp only [renS, postL, List.map_append, List.map_cons, List.map_nil, posts_ren a]
theorem posts_ren {f t : Nm} : ∀ (a : List Scalar), postLs (renSs f t a) = (postLs a).map (renS f t)
  | [] => rfl
  | x :: r => by simp only [renSs, postLs, List.map_append, post_ren x, posts_ren r]
end
theorem ren_args {f t : Nm} {s : Scalar} : (renS f t s).args = s.args.map (renS f t) := by rw [renS_eq]; rfl
theorem deep_ren {f t : Nm} : ∀ (m : Nat) (s : Scalar), deepF m (renS f t s) = deepF m s
  | 0, _ => rfl
  | m + 1, s => by
    simp only [deepF, ren_args, List.any_map]
    congr 1
    funext x
    exact deep_ren m x
theorem formGo_ren {f t : Nm} : ∀ (l : List Scalar) (n : Int) (r : Bool), formGo (l.map (renS f t)) n r = formGo l n r
  | [], _, _ => rfl
  | x :: l, n, r => by simp only [List.map_cons, formGo, part_ren, formGo_ren l]
theorem form_ren {f t : Nm} (s : Scalar) : formF (renS f t s) = formF s := by
  unfold formF
  rw [deep_ren, post_ren, formGo_ren]
mutual
theorem same_refl : ∀ (s : Scalar), sameS s s = true
  | .mk o n v a => by simp [sameS, sameV, sames_refl a]
theorem sames_refl : ∀ (l : List Scalar), sameSs l l = true
  | [] => by simp [sameSs]
  | x :: r => by simp [sameSs, same_refl x, sames_refl r]
end
end Go.Proofs.YtpejdgkaapnekaaGreat
namespace Go.Proofs.YtpejdgkaapnekaaGreat
open Go Go.Abs
attribute [local irreducible] OkOps OkC DRun thenQ blockQ RetQ
set_option maxRecDepth 10000
theorem callA_wk {P : Program} {f : FuncId} {args args' : List AV} {sto : Sto} {rav : AV} {rsto : Sto} (h : CallA P f args sto rav rsto) (hw : ∀ σ φ vs, All2 (RepV σ φ sto) args' vs → All2 (RepV σ φ sto) args vs) : CallA P f args' sto rav rsto :=
  ⟨h.fn, fun w σ φ vs hi ha => h.run w σ φ vs hi (hw σ φ vs ha)⟩
theorem repC_nl {σ : Sig} {φ : Pl} {sto : Sto} {k b : Nat} {v : Value} (h : RepC σ φ sto (.d .nil) v) : RepC σ φ sto (.d (.sl k b [])) v := by
  have h1 := RepC.d_inv h
  cases h1
  exact .d (.sl (fun _ _ => undef) (by simp) (by simp) (by simp) (by simp) (by simp) (by simp))
def zS : Scalar := .mk 0 [] ⟨0, 0, 0, []⟩ []
theorem zero_nil {σ : Sig} {φ : Pl} {sto : Sto} {v : Value} (h : RepV σ φ sto zeroA v) : RepV σ φ sto (aggS zS) v := by
  obtain ⟨vs, rfl, h2⟩ := h
  match vs, h2 with
  | [a, b, c, d, e, f, g], h2 => exact ⟨_, rfl, h2.1, h2.2.1, h2.2.2.1, h2.2.2.2.1, h2.2.2.2.2.1, h2.2.2.2.2.2.1, repC_nl h2.2.2.2.2.2.2.1, trivial⟩
  | [], h2 => exact h2.elim
  | [_], h2 => exact h2.2.elim
  | [_, _], h2 => exact h2.2.2.elim
  | [_, _, _], h2 => exact h2.2.2.2.elim
  | [_, _, _, _], h2 => exact h2.2.2.2.2.elim
  | [_, _, _, _, _], h2 => exact h2.2.2.2.2.2.elim
  | [_, _, _, _, _, _], h2 => exact h2.2.2.2.2.2.2.elim
  | _ :: _ :: _ :: _ :: _ :: _ :: _ :: _ :: _, h2 => exact h2.2.2.2.2.2.2.2.elim
theorem form_zero : (formF zS == 0) = false := by
  have h : partF zS = false := by decide
  have : formF zS = 2 := by
    unfold formF
    have h1 : deepF 12 zS = false := by decide
    have h2 : postL zS = [zS] := by simp [zS, postL, postLs]
    rw [h1, h2]
    simp [formGo, h]
  rw [this]; rfl
theorem c77z : CallA Tryz.prog 77 [zeroA] [] (.one (.d (.bool false))) [] := by
  have h := c77 zS
  rw [form_zero] at h
  refine callA_wk h fun σ φ vs hv => ?_
  match vs, hv with
  | [x], hv => exact ⟨zero_nil hv.1, trivial⟩
  | [], hv => exact hv.elim
  | _ :: _ :: _, hv => exact hv.2.elim
theorem c78z (s : Scalar) : CallA Tryz.prog 78 [aggS s, zeroA] [] (.one (.d (.bool false))) [] := by
  have h := c78 s zS
  rw [form_zero, Bool.false_and, Bool.and_false] at h
  refine callA_wk h fun σ φ vs hv => ?_
  match vs, hv with
  | [x, y], hv => exact ⟨hv.1, zero_nil hv.2.1, trivial⟩
  | [], hv => exact hv.elim
  | [_], hv => exact hv.2.elim
  | _ :: _ :: _ :: _, hv => exact hv.2.2.elim
theorem c79z (s : Scalar) : CallA Tryz.prog 79 [aggS s, zeroA] [] (.one (.d (.bool false))) [] := by
  have h := c79 s zS
  rw [form_zero, Bool.false_and, Bool.and_false] at h
  refine callA_wk h fun σ φ vs hv => ?_
  match vs, hv with
  | [x, y], hv => exact ⟨hv.1, zero_nil hv.2.1, trivial⟩
  | [], hv => exact hv.elim
  | [_], hv => exact hv.2.elim
  | _ :: _ :: _ :: _, hv => exact hv.2.2.elim
theorem c73y (s : Scalar) (h : formF s = 0) : CallA Tryz.prog 73 [aggS s] [] (.one (.d (encNms (usesF s [])))) [] := by
  have := c73 s
  unfold usesPV at this
  rwa [if_pos h, uses_same] at this
theorem c74y (s : Scalar) (h : formF s = 0) : CallA Tryz.prog 74 [aggS s] [] (.one (.d (encNms (usesF s [])))) [] := by
  have := c74 s
  unfold usesAV at this
  rwa [if_pos h] at this
theorem c73n (s : Scalar) (h : ¬ formF s = 0) : CallA Tryz.prog 73 [aggS s] [] (.one (.d .nil)) [] := by
  have := c73 s
  unfold usesPV at this
  rwa [if_neg h] at this
theorem c74n (s : Scalar) (h : ¬ formF s = 0) : CallA Tryz.prog 74 [aggS s] [] (.one (.d .nil)) [] := by
  have := c74 s
  unfold usesAV at this
  rwa [if_neg h] at this
theorem c75y (f t : Nm) (s : Scalar) (h : formF s = 0) : CallA Tryz.prog 75 [aggS s, .one (.d (.str f)), .one (.d (.str t))] [] (aggS (renS f t s)) [] := by
  have := c75 f t s
  unfold renA at this
  rwa [if_pos h] at this
theorem c76y (f t : Nm) (s : Scalar) (h : formF s = 0) : CallA Tryz.prog 76 [aggS s, .one (.d (.str f)), .one (.d (.str t))] [] (aggS (renS f t s)) [] := by
  have := c76 f t s
  unfold renA at this
  rwa [if_pos h] at this
theorem c75n (f t : Nm) (s : Scalar) (h : ¬ formF s = 0) : CallA Tryz.prog 75 [aggS s, .one (.d (.str f)), .one (.d (.str t))] [] zeroA [] := by
  have := c75 f t s
  unfold renA at this
  rwa [if_neg h] at this
theorem c76n (f t : Nm) (s : Scalar) (h : ¬ formF s = 0) : CallA Tryz.prog 76 [aggS s, .one (.d (.str f)), .one (.d (.str t))] [] zeroA [] := by
  have := c76 f t s
  unfold renA at this
  rwa [if_neg h] at this
theorem c77y (s : Scalar) (h : formF s = 0) : CallA Tryz.prog 77 [aggS s] [] (.one (.d (.bool true))) [] := by
  have := c77 s
  rwa [h] at this
theorem c77n (s : Scalar) (h : ¬ formF s = 0) : CallA Tryz.prog 77 [aggS s] [] (.one (.d (.bool false))) [] := by
  have := c77 s
  rwa [show (formF s == 0) = false by simp [h]] at this
theorem c78r (s : Scalar) (h : formF s = 0) : CallA Tryz.prog 78 [aggS s, aggS s] [] (.one (.d (.bool true))) [] := by
  have := c78 s s
  rwa [h, same_refl] at this
set_option maxHeartbeats 2000000 in
theorem c18y (s t : Scalar) (f g : Nm) (hf : formF s = 0) : CallA Tryz.prog 18 [aggS s, aggS t, .one (.d (.str f)), .one (.d (.str g))] [] (.one (.d (.bool true))) [] := by
  have hr : formF (renS f g s) = 0 := by rw [form_ren, hf]
  have hsz := (form_ok hf).2
  have hul := uses_len s []
  simp only [List.length_nil, Nat.zero_add] at hul
  refine enter tabOk Tryz.func18 rfl (by decide +kernel) rfl fun hok w0 σ0 φ0 M => ?_
  clear hok
  repeat' (first | (show OkOps _ _ _ _ _ _; first | refine okops_nil ?_ | refine s_plain tabOk rfl rfl rfl rfl rfl ?_ | (show OkOps _ _ _ (Oper.mk _ (Op.binOp .add _ _ _ _) _ _ _ (_) :: _) _ _; first | refine s_e envOk rfl rfl rfl (step3_add rfl rfl rfl rfl (wrap64 (by omega) (by omega))) ?_ | fail) | (show OkOps _ _ _ (Oper.mk _ (Op.box _ _) _ _ _ (_) :: _) _ _; first | refine s_box 0 rfl rfl rfl rfl rfl rfl ?_ | refine s_box 1 rfl rfl rfl rfl rfl rfl ?_ | fail) | fail) | (show OkC _ _ _ _ _; first | refine ok_seq ?_ | refine ok_region ?_ | refine ok_block ?_ | refine ok_skip ?_ | refine ok_ret ?_ | refine ok_exit ?_ | refine ok_condF rfl ?_ | refine ok_cond rfl (fun h => ?_) (fun h => ?_) | refine ok_regionD progOk.mo ?_ | refine s_loop 5 rfl [(2, _), (3, _), (4, _), (5, _), (9, _), (10, _)] (subL_cons rfl (subL_cons rfl (subL_cons rfl (subL_cons rfl (subL_cons rfl (subL_cons rfl subL_nil)))))) (fun (k : Nat) => [(11, .one (.d (.int .i64 (k : Int))))]) (fun (k : Nat) => k ≤ (usesF s []).length) (fun (k : Nat) => (usesF s []).length - k) 0 (subL_cons rfl subL_nil) ?_ (fun k hk => ?_) | fail) | (show thenQ _ _ _ _; first | refine then_n ?_ | refine then_r ?_ | refine then_x ?_ | fail) | (show blockQ _ _ _ _; first | refine block_n ?_ | refine block_r ?_ | refine block_x rfl ?_ | fail) | (show RetQ _ _ _ _ _ _; first | refine ret_leaf (.inl rfl) rfl rfl ?_ | fail) | (show DRun _ _ _ _ _ _ _ _; first | refine d_nil (by kernel_rfl) ?_ | refine d_e envOk rfl rfl rfl (step3_plain rfl rfl) ?_ | (show DRun _ _ _ _ (Oper.mk _ (_) _ _ _ (some _) :: _) _ _ _; first | refine d_strip rfl rfl (by first | assumption | rfl) ?_ | refine d_outN rfl rfl rfl rfl ?_ | refine d_out rfl rfl (by first | assumption | rfl) rfl rfl ?_ | refine d_split rfl rfl (fun h => ?_) (fun h => ?_) | fail) | (show DRun _ _ _ _ (Oper.mk _ (Op.pick _ _ _) _ _ _ (_) :: _) _ _ _; first | refine d_e envOk rfl rfl rfl (step3_pickT rfl rfl (by first | rfl | assumption) rfl) ?_ | refine d_e envOk rfl rfl rfl (step3_pickF rfl rfl (by first | rfl | assumption) rfl) ?_ | fail) | (show DRun _ _ _ _ (Oper.mk _ (Op.indexAddr _ _ _) _ _ _ (_) :: _) _ _ _; first | refine d_e envOk rfl rfl rfl (step3_idx rfl rfl rfl rfl rfl (by first | omega | ((try simp only [decide_eq_true_eq, decide_eq_false_iff_not, Bool.not_eq_true', Bool.not_true, Bool.not_false, List.length_map, List.length_set, bne_iff_ne, ne_eq, beq_iff_eq, bne_eq_false_iff_eq, beq_eq_false_iff_ne] at *); omega)) (at_map (by first | omega | ((try simp only [decide_eq_true_eq, decide_eq_false_iff_not, Bool.not_eq_true', Bool.not_true, Bool.not_false, List.length_map, List.length_set, bne_iff_ne, ne_eq, beq_iff_eq, bne_eq_false_iff_eq, beq_eq_false_iff_ne] at *); omega)))) ?_ | fail) | (show DRun _ _ _ _ (Oper.mk _ (Op.call _) _ _ _ (_) :: _) _ _ _; first | refine d_l rfl rfl (loc_callF' rfl rfl rfl rfl rfl rfl (c77y _ hf) rfl) ?_ | refine d_l rfl rfl (loc_callF' rfl rfl rfl rfl rfl rfl (c77y _ hr) rfl) ?_ | refine d_l rfl rfl (loc_callF' rfl rfl rfl rfl rfl rfl (c78r _ hr) rfl) ?_ | refine d_l rfl rfl (loc_callF' rfl rfl rfl rfl rfl rfl (c79 _ _) rfl) ?_ | refine d_l rfl rfl (loc_callF' rfl rfl rfl rfl rfl rfl (c78 _ _) rfl) ?_ | refine d_l rfl rfl (loc_callF' rfl rfl rfl rfl rfl rfl (c19) rfl) ?_ | refine d_callD 16 rfl rfl rfl rfl rfl rfl rfl rfl (c73y _ hf) rfl rfl ?_ | refine d_callD 16 rfl rfl rfl rfl rfl rfl rfl rfl (c74y _ hf) rfl rfl ?_ | refine d_callD 16 rfl rfl rfl rfl rfl rfl rfl rfl (c75y _ _ _ hf) rfl rfl ?_ | refine d_callD 16 rfl rfl rfl rfl rfl rfl rfl rfl (c76y _ _ _ hf) rfl rfl ?_ | fail) | refine d_new envOk 2 rfl rfl rfl rfl rfl rfl ?_ | refine d_new envOk 3 rfl rfl rfl rfl rfl rfl ?_ | refine d_store envOk rfl rfl rfl ?_ | fail) | (show Exists _; first | refine Exists.intro (k + 1) ⟨?_, ?_, (by first | exact subL_nil | exact (subL_cons rfl subL_nil) | exact (subL_cons rfl (subL_cons rfl subL_nil)) | exact (subL_cons rfl (subL_cons rfl (subL_cons rfl subL_nil))) | exact (subL_cons rfl (subL_cons rfl (subL_cons rfl (subL_cons rfl subL_nil)))) | exact (subL_cons rfl (subL_cons rfl (subL_cons rfl (subL_cons rfl (subL_cons rfl subL_nil))))) | exact (subL_cons rfl (subL_cons rfl (subL_cons rfl (subL_cons rfl (subL_cons rfl (subL_cons rfl subL_nil)))))) | exact (subL_cons rfl (subL_cons rfl (subL_cons rfl (subL_cons rfl (subL_cons rfl (subL_cons rfl (subL_cons rfl subL_nil))))))) | exact (subL_cons rfl (subL_cons rfl (subL_cons rfl (subL_cons rfl (subL_cons rfl (subL_cons rfl (subL_cons rfl (subL_cons rfl subL_nil))))))))), (subL_cons rfl subL_nil), (subL_cons rfl (subL_cons rfl (subL_cons rfl (subL_cons rfl (subL_cons rfl (subL_cons rfl subL_nil))))))⟩ | fail) | fail)
  all_goals first
    | rfl
    | (exfalso; simp_all; done)
    | exact Nat.zero_le _
    | (have hlt : k < (usesF s []).length := by have := of_decide_eq_true ‹decide ((k : Int) < (((usesF s []).map encNm).length : Int)) = true›; simp at this; omega
       first
         | exact hlt
         | (show (usesF s []).length - (k + 1) < (usesF s []).length - k
            omega))
    | skip
set_option maxHeartbeats 2000000 in
theorem c18n (s t : Scalar) (f g : Nm) (hf : ¬ formF s = 0) : CallA Tryz.prog 18 [aggS s, aggS t, .one (.d (.str f)), .one (.d (.str g))] [] (.one (.d (.bool true))) [] := by
  refine enter tabOk Tryz.func18 rfl (by decide +kernel) rfl fun hok w0 σ0 φ0 M => ?_
  clear hok
  repeat' (first | (show OkOps _ _ _ _ _ _; first | refine okops_nil ?_ | refine s_plain tabOk rfl rfl rfl rfl rfl ?_ | (show OkOps _ _ _ (Oper.mk _ (Op.box _ _) _ _ _ (_) :: _) _ _; first | refine s_box 0 rfl rfl rfl rfl rfl rfl ?_ | refine s_box 1 rfl rfl rfl rfl rfl rfl ?_ | fail) | fail) | (show OkC _ _ _ _ _; first | refine ok_seq ?_ | refine ok_region ?_ | refine ok_block ?_ | refine ok_skip ?_ | refine ok_ret ?_ | refine ok_exit ?_ | refine ok_condF rfl ?_ | refine ok_regionD progOk.mo ?_ | refine s_loop 5 rfl [(2, _), (3, _), (4, _), (5, _), (9, _), (10, _)] (subL_cons rfl (subL_cons rfl (subL_cons rfl (subL_cons rfl (subL_cons rfl (subL_cons rfl subL_nil)))))) (fun (k : Nat) => [(11, .one (.d (.int .i64 (k : Int))))]) (fun (k : Nat) => k = 0) (fun (k : Nat) => 0) 0 (subL_cons rfl subL_nil) ?_ (fun k hk => ?_) | fail) | (show thenQ _ _ _ _; first | refine then_n ?_ | refine then_x ?_ | fail) | (show blockQ _ _ _ _; first | refine block_x rfl ?_ | fail) | (show RetQ _ _ _ _ _ _; first | refine ret_leaf (.inl rfl) rfl rfl ?_ | fail) | (show DRun _ _ _ _ _ _ _ _; first | refine d_nil (by kernel_rfl) ?_ | refine d_e envOk rfl rfl rfl (step3_plain rfl rfl) ?_ | (show DRun _ _ _ _ (Oper.mk _ (_) _ _ _ (some _) :: _) _ _ _; first | refine d_strip rfl rfl (by first | assumption | rfl) ?_ | refine d_out rfl rfl (by first | assumption | rfl) rfl rfl ?_ | refine d_split rfl rfl (fun h => ?_) (fun h => ?_) | fail) | (show DRun _ _ _ _ (Oper.mk _ (Op.pick _ _ _) _ _ _ (_) :: _) _ _ _; first | refine d_e envOk rfl rfl rfl (step3_pickT rfl rfl (by first | rfl | assumption) rfl) ?_ | refine d_e envOk rfl rfl rfl (step3_pickF rfl rfl (by first | rfl | assumption) rfl) ?_ | fail) | (show DRun _ _ _ _ (Oper.mk _ (Op.call _) _ _ _ (_) :: _) _ _ _; first | refine d_l rfl rfl (loc_callF' rfl rfl rfl rfl rfl rfl (c73n _ hf) rfl) ?_ | refine d_l rfl rfl (loc_callF' rfl rfl rfl rfl rfl rfl (c74n _ hf) rfl) ?_ | refine d_l rfl rfl (loc_callF' rfl rfl rfl rfl rfl rfl (c75n _ _ _ hf) rfl) ?_ | refine d_l rfl rfl (loc_callF' rfl rfl rfl rfl rfl rfl (c76n _ _ _ hf) rfl) ?_ | refine d_l rfl rfl (loc_callF' rfl rfl rfl rfl rfl rfl (c77z) rfl) ?_ | refine d_l rfl rfl (loc_callF' rfl rfl rfl rfl rfl rfl (c77n _ hf) rfl) ?_ | refine d_l rfl rfl (loc_callF' rfl rfl rfl rfl rfl rfl (c78z _) rfl) ?_ | refine d_l rfl rfl (loc_callF' rfl rfl rfl rfl rfl rfl (c79z _) rfl) ?_ | refine d_l rfl rfl (loc_callF' rfl rfl rfl rfl rfl rfl (c79 _ _) rfl) ?_ | refine d_l rfl rfl (loc_callF' rfl rfl rfl rfl rfl rfl (c78 _ _) rfl) ?_ | refine d_l rfl rfl (loc_callF' rfl rfl rfl rfl rfl rfl (c19) rfl) ?_ | fail) | refine d_e envOk rfl rfl rfl rfl ?_ | refine d_new envOk 2 rfl rfl rfl rfl rfl rfl ?_ | refine d_new envOk 3 rfl rfl rfl rfl rfl rfl ?_ | refine d_store envOk rfl rfl rfl ?_ | fail) | fail)
  all_goals first
    | rfl
    | (exfalso; simp_all; done)
    | skip
theorem c18 (s t : Scalar) (f g : Nm) : CallA Tryz.prog 18 [aggS s, aggS t, .one (.d (.str f)), .one (.d (.str g))] [] (.one (.d (.bool true))) [] := by
  by_cases hf : formF s = 0
  · exact c18y s t f g hf
  · exact c18n s t f g hf
end Go.Proofs.YtpejdgkaapnekaaGreat

namespace Go.Proofs.YtpejdgkaapnekaaGreat
open Go Go.Abs
open Go.ChangeShapes Go.WideShapes Go.ChangeAt Go.RowKit
set_option maxRecDepth 100000 in
theorem names_contract (H : Type) (en : TypeId × Value → H) (W : World) (base : Nat) (args : Array Value) (ds gs : List (DataW H)) (before : List MemPlace)
    (hval : ∀ (j : Nat) t v, Tryz.f18.params[j]? = some t → args[j]? = some v → Value.okWide Tryz.prog W .any base t v)
    (hW : DataW.Whole en Tryz.prog Tryz.f18.params.toList Rows.algebraNamesSpec.vars false W args.toList ds gs before) (hk : Rows.uptoSmall H (ds ++ gs) = true) :
    Calls Tryz.prog 18 args W fun e W' => ∃ v, e = .returned v ∧ Rows.algebraNamesSpec.post en Tryz.prog Tryz.f18 false true false false W args v W' := by
  have hW' := hW
  obtain ⟨p, q, hA0, hV, rfl, hfz, hnd⟩ := hW
  have hA : DataW.TrodAll en Tryz.prog W 0 (fun _ => true) true Tryz.f18.params.toList args.toList ds p := hA0
  rw [Tryz.params18] at hA hval
  obtain ⟨v0, vs0, d0, ds0, p0, q0, hargs, rfl, rfl, h0, r0⟩ := trodAll_cons hA
  obtain ⟨v1, vs1, d1, ds1, p1, q1, rfl, rfl, rfl, h1, r1⟩ := trodAll_cons r0
  obtain ⟨v2, vs2, d2, ds2, p2, q2, rfl, rfl, rfl, h2, r2⟩ := trodAll_cons r1
  obtain ⟨v3, vs3, d3, ds3, p3, q3, rfl, rfl, rfl, h3, r3⟩ := trodAll_cons r2
  obtain ⟨rfl, rfl, rfl⟩ := trodAll_nil r3
  obtain rfl : args = #[v0, v1, v2, v3] := by cases args; simp_all
  obtain ⟨rfl, rfl⟩ := trodVars_none hV
  obtain ⟨cs0, rfl⟩ := okWide_agg Tryz.underlying31 (hval 0 31 v0 rfl rfl)
  obtain ⟨cs1, rfl⟩ := okWide_agg Tryz.underlying31 (hval 1 31 v1 rfl rfl)
  obtain ⟨s2, rfl⟩ := okWide_string Tryz.underlying9 (hval 2 9 v2 rfl rfl)
  obtain ⟨s3, rfl⟩ := okWide_string Tryz.underlying9 (hval 3 9 v3 rfl rfl)
  have hbk : (Rows.uptoBulk d0 + (Rows.uptoBulk d1 + (Rows.uptoBulk d2 + (Rows.uptoBulk d3)))) ≤ 1048576 := by
    simpa [Rows.uptoSmall, Rows.uptoBulkAll] using hk
  obtain ⟨f0, h0⟩ := h0
  obtain ⟨f1, h1⟩ := h1
  obtain ⟨f2, h2⟩ := h2
  obtain ⟨f3, h3⟩ := h3
  obtain ⟨a0, hl0, ha0⟩ := rd_scalar 1048576 (by omega) f0 _ _ h0 (by show Rows.uptoBulk d0 ≤ _; omega)
  rw [encS_eq] at ha0
  obtain ⟨a1, hl1, ha1⟩ := rd_scalar 1048576 (by omega) f1 _ _ h1 (by show Rows.uptoBulk d1 ≤ _; omega)
  rw [encS_eq] at ha1
  obtain ⟨a2, hl2, ha2⟩ := rd_str (N := 1048576) (by omega) Tryz.underlying9 f2 _ _ h2 (by show Rows.uptoBulk d2 ≤ _; omega)
  obtain ⟨a3, hl3, ha3⟩ := rd_str (N := 1048576) (by omega) Tryz.underlying9 f3 _ _ h3 (by show Rows.uptoBulk d3 ≤ _; omega)
  refine ((c18 a0 a1 a2 a3 ).run W (sg W) (fun _ => none) [.agg cs0.toArray, .agg cs1.toArray, .string s2, .string s3] (sg_inv _) ⟨⟨cs0, rfl, all2_d ha0⟩, ⟨cs1, rfl, all2_d ha1⟩, RepC.d ha2.1, RepC.d ha3.1, trivial⟩).mono fun e W' ⟨v, σ', φ', he, hret⟩ => ?_
  subst he
  have hv : v = .bool true := by
    have h2 := RepC.d_inv hret.rep
    cases h2; rfl
  subst hv
  have hsame : ∀ p ∈ p0 ++ (p1 ++ (p2 ++ (p3 ++ []))), W.sameAt W' p := fun p hp => keptSame hret.kept (hW'.lt p (by simpa using hp))
  have hAk := carryAll hA0 hsame
  exact ⟨_, rfl, _, _, _, [], _, [], hW', trodAll_mk1 (shutBool true), DataW.TrodAll.respare kids full (by
      rw [Tryz.params18]
      intro t ht
      have ht' : t = 31 ∨ t = 31 ∨ t = 9 ∨ t = 9 := by simpa using ht
      rcases ht' with rfl | rfl | rfl | rfl <;> exact few (by omega)) hAk (fun p hp => by
        have := hW'.lt p (by simpa using hp)
        simpa using this), rfl, keptAll hret.kept _, fun h => by cases h⟩
end Go.Proofs.YtpejdgkaapnekaaGreat
