import Derived.DeepKeys3
import Derived.Laws.StructEq
import Derived.MapKept
import Derived.RangeFuncIn
import Derived.Test.YtpejdgkaapnekaaGreatP0
set_option linter.unusedVariables false
set_option linter.unusedSimpArgs false
namespace Go.Abs
open Go
variable {P : Program} {c : Ctx} {T : Tab} {σ : Sig} {φ : Pl} {sto : Sto} {w : World}
theorem okops_enter {ops : Array Oper} {o : Oper} {rest : List Oper} {st : St} {K : St → Prop} (hg : o.guard = none)
    (H : ∀ (a : Act) (w : World) (σ : Sig) (φ : Pl), Rel c st a w σ φ → ∃ f vs R, (execOp a.eval o).run P w = .ok (.enter f vs) w ∧ Calls P f vs w R ∧
      ∀ e w', R e w' → ∃ v st' σ' φ', e = .returned v ∧ Rel c st' (a.put o.dst v) w' σ' φ' ∧ OkOps P c ops rest st' K) : OkOps P c ops (o :: rest) st K := by
  intro a w σ φ Q hr hQ
  obtain ⟨f, vs, R, hrun, hcalls, hR⟩ := H a w σ φ hr
  refine wpListIn_plain hg fun K' hK => ⟨fun f _ => fnc_fn c f, ?_⟩
  rw [semAt_run (by simp) hrun, Oper.uponIn_enter]
  refine ⟨fun h => by simp [fnc, Fence.wide] at h, (fnc_callsIn hcalls).mono fun e w' he => ?_⟩
  obtain ⟨v, st', σ', φ', rfl, hr', hok⟩ := hR e w' he
  exact hK _ _ (hok _ _ _ _ _ hr' hQ)
def evL (st : St) : List Operand → Option (List AV)
  | [] => some []
  | x :: r => match ev st x with
    | some v => match evL st r with
      | some l => some (v :: l)
      | none => none
    | none => none
theorem evL_rep {st : St} {a : Act} (hr : Rel c st a w σ φ) : ∀ {xs : List Operand} {vs : List AV}, evL st xs = some vs → All2 (RepV σ φ st.sto) vs (xs.map a.eval)
  | [], vs, h => by simp [evL] at h; subst h; trivial
  | x :: r, vs, h => by
    simp only [evL] at h
    split at h <;> (try (simp at h; done))
    rename_i v hv
    split at h <;> simp at h
    rename_i l hl
    subst h
    exact ⟨ev_rep hr hv, evL_rep hr hl⟩
def acsD : List AC → Bool
  | [] => true
  | .d _ :: r => acsD r
  | _ :: _ => false
def avD : AV → Bool
  | .one (.d _) => true
  | .agg cs => acsD cs
  | _ => false
def avsD : List AV → Bool
  | [] => true
  | v :: r => avD v && avsD r
theorem acsD_rep {σ' : Sig} {φ' : Pl} {sto' : Sto} (hle : σ.le σ') : ∀ {cs : List AC} {vs : List Value}, acsD cs = true → All2 (RepC σ φ sto) cs vs → All2 (RepC σ' φ' sto') cs vs
  | [], [], _, _ => trivial
  | .d _ :: _, _ :: _, hd, h => ⟨by have h1 := RepC.d_inv h.1; exact .d (h1.mono hle), acsD_rep hle (by simpa [acsD] using hd) h.2⟩
  | [], _ :: _, _, h => h.elim
  | _ :: _, [], _, h => h.elim
  | .own _ _ :: _, _ :: _, hd, _ => by simp [acsD] at hd
  | .sub _ _ _ :: _, _ :: _, hd, _ => by simp [acsD] at hd
  | .ref _ _ :: _, _ :: _, hd, _ => by simp [acsD] at hd
  | .rref _ _ _ :: _, _ :: _, hd, _ => by simp [acsD] at hd
  | .junk :: _, _ :: _, hd, _ => by simp [acsD] at hd
  | .yl _ :: _, _ :: _, hd, _ => by simp [acsD] at hd
  | .mapr _ :: _, _ :: _, hd, _ => by simp [acsD] at hd
  | .bsl _ _ _ :: _, _ :: _, hd, _ => by simp [acsD] at hd
theorem avD_rep {σ' : Sig} {φ' : Pl} {sto' : Sto} (hle : σ.le σ') {v : AV} {u : Value} (hd : avD v = true) (h : RepV σ φ sto v u) : RepV σ' φ' sto' v u := by
  cases v with
  | one c =>
    cases c with
    | d x => replace h := RepC.d_inv h; exact RepC.d (h.mono hle)
    | _ => simp [avD] at hd
  | agg cs => obtain ⟨us, rfl, h⟩ := h; exact ⟨us, rfl, acsD_rep hle hd h⟩
  | tup _ => simp [avD] at hd
  | any => simp [avD] at hd
theorem avsD_rep {σ' : Sig} {φ' : Pl} {sto' : Sto} (hle : σ.le σ') : ∀ {vs : List AV} {us : List Value}, avsD vs = true → All2 (RepV σ φ sto) vs us → All2 (RepV σ' φ' sto') vs us
  | [], [], _, _ => trivial
  | _ :: _, _ :: _, hd, h => by
    simp only [avsD, Bool.and_eq_true] at hd
    exact ⟨avD_rep hle hd.1 h.1, avsD_rep hle hd.2 h.2⟩
  | [], _ :: _, _, h => h.elim
  | _ :: _, [], _, h => h.elim
def acsIn (sto : Sto) : List AC → Bool
  | [] => true
  | c :: r => acIn sto c && acsIn sto r
def tsIn (sto : Sto) : List (Bool × List AC) → Bool
  | [] => true
  | t :: r => acsIn sto t.2 && tsIn sto r
def avIn (sto : Sto) : AV → Bool
  | .one c => acIn sto c
  | .agg cs => acsIn sto cs
  | .tup ts => tsIn sto ts
  | .any => true
def frIn (sto : Sto) : List (Nat × AV) → Bool
  | [] => true
  | (_, v) :: r => avIn sto v && frIn sto r
def aoIn (sto : Sto) : AObj → Bool
  | .box cs => acsIn sto cs
  | .loop _ fr _ _ => frIn sto fr
  | _ => true
def stoIn (sto : Sto) : Sto → Bool
  | [] => true
  | (_, o) :: r => aoIn sto o && stoIn sto r
theorem frIn_look {sto : Sto} : ∀ {l : List (Nat × AV)}, frIn sto l = true → ∀ {s : Nat} {v : AV}, look l s = some v → avIn sto v = true
  | [], _, _, _, h => by simp [look] at h
  | (t, x) :: r, hi, s, v, h => by
    simp only [frIn, Bool.and_eq_true] at hi
    rcases look_cons h with ⟨_, rfl⟩ | ⟨_, h⟩
    · exact hi.1
    · exact frIn_look hi.2 h
theorem stoIn_look {sto : Sto} : ∀ {l : Sto}, stoIn sto l = true → ∀ {s : Nat} {o : AObj}, look l s = some o → aoIn sto o = true
  | [], _, _, _, h => by simp [look] at h
  | (t, x) :: r, hi, s, v, h => by
    simp only [stoIn, Bool.and_eq_true] at hi
    rcases look_cons h with ⟨_, rfl⟩ | ⟨_, h⟩
    · exact hi.1
    · exact stoIn_look hi.2 h
def renC (r : Nat → Nat) : AC → AC
  | .own i n => .own (r i) n
  | .sub i lo n => .sub (r i) lo n
  | .ref i off => .ref (r i) off
  | .rref i j off => .rref (r i) j off
  | .yl i => .yl (r i)
  | .mapr i => .mapr (r i)
  | .bsl i off n => .bsl (r i) off n
  | .d x => .d x
  | .junk => .junk
def renCs (r : Nat → Nat) : List AC → List AC
  | [] => []
  | c :: l => renC r c :: renCs r l
def renTs (r : Nat → Nat) : List (Bool × List AC) → List (Bool × List AC)
  | [] => []
  | (g, cs) :: l => (g, renCs r cs) :: renTs r l
def renV (r : Nat → Nat) : AV → AV
  | .one c => .one (renC r c)
  | .agg cs => .agg (renCs r cs)
  | .tup ts => .tup (renTs r ts)
  | .any => .any
def renFr (r : Nat → Nat) : List (Nat × AV) → List (Nat × AV)
  | [] => []
  | (s, v) :: l => (s, renV r v) :: renFr r l
def renO (r : Nat → Nat) : AObj → AObj
  | .box cs => .box (renCs r cs)
  | .row a b xs => .row a b xs
  | .map kg vg es => .map kg vg es
  | .loop li fr s p => .loop li (renFr r fr) s p
def renL (r : Nat → Nat) : List AV → List AV
  | [] => []
  | v :: l => renV r v :: renL r l
def keysLt (n : Nat) : Sto → Bool
  | [] => true
  | (i, _) :: r => Nat.blt i n && keysLt n r
def keysOut (k : Nat) : Sto → Bool
  | [] => true
  | (i, _) :: r => (Nat.blt i k || Nat.ble (k + 16) i) && keysOut k r
def acOut (k : Nat) : AC → Bool
  | .own i _ | .sub i _ _ | .ref i _ | .rref i _ _ | .yl i | .mapr i | .bsl i _ _ => Nat.blt i k || Nat.ble (k + 16) i
  | _ => true
def acsOut (k : Nat) : List AC → Bool
  | [] => true
  | c :: r => acOut k c && acsOut k r
def tsOut (k : Nat) : List (Bool × List AC) → Bool
  | [] => true
  | t :: r => acsOut k t.2 && tsOut k r
def avOut (k : Nat) : AV → Bool
  | .one c => acOut k c
  | .agg cs => acsOut k cs
  | .tup ts => tsOut k ts
  | .any => true
def frOut (k : Nat) : List (Nat × AV) → Bool
  | [] => true
  | p :: r => avOut k p.2 && frOut k r
def aoOut (k : Nat) : AObj → Bool
  | .box cs => acsOut k cs
  | .loop _ fr _ _ => frOut k fr
  | _ => true
def stoOut (k : Nat) : Sto → Bool
  | [] => true
  | (_, o) :: r => aoOut k o && stoOut k r
theorem acOut_men {k i : Nat} (h1 : k ≤ i) (h2 : i < k + 16) {c : AC} (h : acOut k c = true) : c.men i = false := by
  have key : ∀ {j : Nat}, (Nat.blt j k || Nat.ble (k + 16) j) = true → Nat.beq j i = false := by
    intro j hj
    simp only [Bool.or_eq_true, Nat.blt_eq, Nat.ble_eq] at hj
    cases hb : Nat.beq j i with
    | false => rfl
    | true => have := Nat.eq_of_beq_eq_true hb; omega
  cases c <;> first | rfl | exact key h
theorem acsOut_men {k i : Nat} (h1 : k ≤ i) (h2 : i < k + 16) : ∀ {cs : List AC}, acsOut k cs = true → acsMen i cs = false
  | [], _ => rfl
  | _ :: _, h => by
    simp only [acsOut, Bool.and_eq_true] at h
    simp only [acsMen, acOut_men h1 h2 h.1, acsOut_men h1 h2 h.2, Bool.or_self]
theorem tsOut_men {k i : Nat} (h1 : k ≤ i) (h2 : i < k + 16) : ∀ {ts : List (Bool × List AC)}, tsOut k ts = true → tsMen i ts = false
  | [], _ => rfl
  | _ :: _, h => by
    simp only [tsOut, Bool.and_eq_true] at h
    simp only [tsMen, acsOut_men h1 h2 h.1, tsOut_men h1 h2 h.2, Bool.or_self]
theorem avOut_men {k i : Nat} (h1 : k ≤ i) (h2 : i < k + 16) {v : AV} (h : avOut k v = true) : v.men i = false := by
  cases v with
  | one c => exact acOut_men h1 h2 h
  | agg cs => exact acsOut_men h1 h2 h
  | tup ts => exact tsOut_men h1 h2 h
  | any => rfl
theorem frOut_men {k i : Nat} (h1 : k ≤ i) (h2 : i < k + 16) : ∀ {fr : List (Nat × AV)}, frOut k fr = true → frMen i fr = false
  | [], _ => rfl
  | _ :: _, h => by
    simp only [frOut, Bool.and_eq_true] at h
    simp only [frMen, avOut_men h1 h2 h.1, frOut_men h1 h2 h.2, Bool.or_self]
theorem aoOut_men {k i : Nat} (h1 : k ≤ i) (h2 : i < k + 16) {o : AObj} (h : aoOut k o = true) : o.men i = false := by
  cases o with
  | box cs => exact acsOut_men h1 h2 h
  | loop li fr s p => exact frOut_men h1 h2 h
  | _ => rfl
theorem stoOut_men {k i : Nat} (h1 : k ≤ i) (h2 : i < k + 16) : ∀ {sto : Sto}, stoOut k sto = true → stoMen i sto = false
  | [], _ => rfl
  | (_, o) :: _, h => by
    simp only [stoOut, Bool.and_eq_true] at h
    simp only [stoMen, aoOut_men h1 h2 h.1, stoOut_men h1 h2 h.2, Bool.or_self]
def FreshR (k : Nat) (st : St) : Prop := ∀ i, k ≤ i → i < k + 16 → look st.sto i = none ∧ frMen i st.fr = false ∧ stoMen i st.sto = false
theorem keysLt_look {n : Nat} : ∀ {sto : Sto}, keysLt n sto = true → ∀ {i : Nat} {o : AObj}, look sto i = some o → i < n
  | [], _, _, _, h => by simp [look] at h
  | (j, x) :: r, hk, i, o, h => by
    simp only [keysLt, Bool.and_eq_true, Nat.blt_eq] at hk
    rcases look_cons h with ⟨rfl, _⟩ | ⟨_, h⟩
    · exact hk.1
    · exact keysLt_look hk.2 h
theorem keysOut_look {k : Nat} : ∀ {sto : Sto}, keysOut k sto = true → ∀ {i : Nat} {o : AObj}, look sto i = some o → i < k ∨ k + 16 ≤ i
  | [], _, _, _, h => by simp [look] at h
  | (j, x) :: r, hk, i, o, h => by
    simp only [keysOut, Bool.and_eq_true, Bool.or_eq_true, Nat.blt_eq, Nat.ble_eq] at hk
    rcases look_cons h with ⟨rfl, _⟩ | ⟨_, h⟩
    · exact hk.1
    · exact keysOut_look hk.2 h
def freshRB (k : Nat) (st : St) : Bool := keysOut k st.sto && frOut k st.fr && stoOut k st.sto
theorem freshRB_ok {k : Nat} {st : St} (h : freshRB k st = true) : FreshR k st := by
  simp only [freshRB, Bool.and_eq_true] at h
  intro i h1 h2
  refine ⟨?_, frOut_men h1 h2 h.1.2, stoOut_men h1 h2 h.2⟩
  cases hl : look st.sto i with
  | none => rfl
  | some e => have := keysOut_look h.1.1 hl; omega
def rn (k : Nat) (ρ : List (Nat × Nat)) (j : Nat) : Nat := bif Nat.blt j 16 then k + j else match look ρ j with | some i => i | none => 0
def inK (ρ : List (Nat × Nat)) (j : Nat) : Bool := match look ρ j with | some _ => true | none => false
def keysOk (ρ : List (Nat × Nat)) : Sto → Bool
  | [] => true
  | (j, _) :: r => (Nat.blt j 16 || inK ρ j) && keysOk ρ r
def bigK : List (Nat × Nat) → Bool
  | [] => true
  | (j, _) :: r => Nat.ble 1000000 j && Nat.blt j 2000000 && bigK r
def notIn (i : Nat) : List (Nat × Nat) → Bool
  | [] => true
  | (_, i') :: r => !(Nat.beq i' i) && notIn i r
def injK : List (Nat × Nat) → Bool
  | [] => true
  | (_, i) :: r => notIn i r && injK r
def Pass (st : St) (r : Nat → Nat) (ρ : List (Nat × Nat)) : Sto → Prop
  | [] => True
  | (j, o) :: l => (∃ i, look ρ j = some i ∧ look st.sto i = some (renO r o)) ∧ Pass st r ρ l
def putR (r : Nat → Nat) (s : Sto) : Sto → Sto
  | [] => s
  | (j, o) :: l => setS (r j) (renO r o) (putR r s l)
def delL : List (Nat × Nat) → Sto → Sto
  | [], s => s
  | (_, i) :: l, s => del i (delL l s)
def CompatL (st : St) (r : Nat → Nat) (ρ : List (Nat × Nat)) : Sto → Prop
  | [] => True
  | (j, o) :: l => (∀ i e, look ρ j = some i → look st.sto i = some e → compat e o) ∧ CompatL st r ρ l
theorem Pass.look {st : St} {r : Nat → Nat} {ρ : List (Nat × Nat)} : ∀ {l : Sto}, Pass st r ρ l → ∀ {j : Nat} {o : AObj}, Go.Abs.look l j = some o → ∃ i, Go.Abs.look ρ j = some i ∧ Go.Abs.look st.sto i = some (renO r o)
  | [], _, _, _, h => by simp [Go.Abs.look] at h
  | (j', o') :: l, hp, j, o, h => by
    rcases look_cons h with ⟨rfl, rfl⟩ | ⟨_, h⟩
    · exact hp.1
    · exact Pass.look hp.2 h
theorem CompatL.look {st : St} {r : Nat → Nat} {ρ : List (Nat × Nat)} : ∀ {l : Sto}, CompatL st r ρ l → ∀ {j : Nat} {o : AObj}, Go.Abs.look l j = some o → ∀ {i : Nat} {e : AObj}, Go.Abs.look ρ j = some i → Go.Abs.look st.sto i = some e → compat e o
  | [], _, _, _, h => by simp [Go.Abs.look] at h
  | (j', o') :: l, hp, j, o, h => by
    rcases look_cons h with ⟨rfl, rfl⟩ | ⟨_, h⟩
    · exact fun h1 h2 => hp.1 _ _ h1 h2
    · exact CompatL.look hp.2 h
theorem bigK_look {ρ : List (Nat × Nat)} : bigK ρ = true → ∀ {j i : Nat}, look ρ j = some i → Pin j := by
  induction ρ with
  | nil => intro _ j i h; simp [look] at h
  | cons p r ih =>
    obtain ⟨j', i'⟩ := p
    intro hb j i h
    simp only [bigK, Bool.and_eq_true, Nat.ble_eq, Nat.blt_eq] at hb
    rcases look_cons h with ⟨rfl, rfl⟩ | ⟨_, h⟩
    · exact hb.1
    · exact ih hb.2 h
theorem notIn_look {ρ : List (Nat × Nat)} {i : Nat} : notIn i ρ = true → ∀ {j i' : Nat}, look ρ j = some i' → i' ≠ i := by
  induction ρ with
  | nil => intro _ j i h; simp [look] at h
  | cons p r ih =>
    obtain ⟨j', i''⟩ := p
    intro hb j i' h
    simp only [notIn, Bool.and_eq_true, Bool.not_eq_true'] at hb
    rcases look_cons h with ⟨rfl, rfl⟩ | ⟨_, h⟩
    · exact beq_ne hb.1
    · exact ih hb.2 h
theorem injK_look {ρ : List (Nat × Nat)} : injK ρ = true → ∀ {j j' i : Nat}, look ρ j = some i → look ρ j' = some i → j = j' := by
  induction ρ with
  | nil => intro _ j j' i h; simp [look] at h
  | cons p r ih =>
    obtain ⟨j0, i0⟩ := p
    intro hb j j' i h h'
    simp only [injK, Bool.and_eq_true] at hb
    rcases look_cons h with ⟨e1, e2⟩ | ⟨_, k1⟩
    · rcases look_cons h' with ⟨e3, _⟩ | ⟨_, k2⟩
      · rw [e1, e3]
      · exact absurd e2 (notIn_look hb.1 k2)
    · rcases look_cons h' with ⟨_, e4⟩ | ⟨_, k2⟩
      · exact absurd e4 (notIn_look hb.1 k1)
      · exact ih hb.2 k1 k2
theorem keysOk_look {ρ : List (Nat × Nat)} : ∀ {l : Sto}, keysOk ρ l = true → ∀ {j : Nat} {o : AObj}, look l j = some o → j < 16 ∨ ∃ i, look ρ j = some i
  | [], _, _, _, h => by simp [look] at h
  | (j', o') :: l, hk, j, o, h => by
    simp only [keysOk, Bool.and_eq_true, Bool.or_eq_true, Nat.blt_eq] at hk
    rcases look_cons h with ⟨rfl, rfl⟩ | ⟨_, h⟩
    · rcases hk.1 with h1 | h1
      · exact .inl h1
      · unfold inK at h1
        split at h1
        · exact .inr ⟨_, by assumption⟩
        · cases h1
    · exact keysOk_look hk.2 h
theorem rn_new {k j : Nat} {ρ : List (Nat × Nat)} (h : j < 16) : rn k ρ j = k + j := by unfold rn; rw [show Nat.blt j 16 = true by simpa using h]; rfl
theorem rn_old {k j i : Nat} {ρ : List (Nat × Nat)} (hb : bigK ρ = true) (h : look ρ j = some i) : rn k ρ j = i := by
  have := bigK_look hb h
  unfold rn
  have h16 : Nat.blt j 16 = false := by
    cases hh : Nat.blt j 16 with
    | false => rfl
    | true => simp only [Nat.blt_eq] at hh; omega
  rw [h16, h]; rfl
theorem look_delL {ρ : List (Nat × Nat)} {s : Sto} {i : Nat} {o : AObj} : look (delL ρ s) i = some o → look s i = some o ∧ ∀ j, look ρ j ≠ some i := by
  induction ρ with
  | nil => intro h; exact ⟨h, by simp [look]⟩
  | cons p r ih =>
    obtain ⟨j0, i0⟩ := p
    intro h
    obtain ⟨h1, h2⟩ := look_del h
    obtain ⟨h3, h4⟩ := ih h2
    refine ⟨h3, fun j hj => ?_⟩
    rcases look_cons hj with ⟨rfl, rfl⟩ | ⟨_, hj⟩
    · exact h1 rfl
    · exact h4 j hj
def keysNd : List (Nat × Nat) → Bool
  | [] => true
  | (j, _) :: r => !inK r j && keysNd r
section
variable {k : Nat} {ρ : List (Nat × Nat)} {rs s : Sto}
theorem look_putR {r : Nat → Nat} : ∀ {rs : Sto} {i : Nat} {o : AObj}, look (putR r s rs) i = some o → (∃ j o', i = r j ∧ look rs j = some o' ∧ o = renO r o') ∨ ((∀ j o', look rs j = some o' → r j ≠ i) ∧ look s i = some o)
  | [], _, _, h => .inr ⟨fun _ _ h => by simp [look] at h, h⟩
  | (j, x) :: l, i, o, h => by
    simp only [putR, look_setS] at h
    rcases look_cons h with ⟨rfl, rfl⟩ | ⟨hne, h⟩
    · exact .inl ⟨j, x, rfl, look_self, rfl⟩
    · rcases look_putR h with ⟨j', o', rfl, h2, h4⟩ | ⟨h1, h2⟩
      · refine .inl ⟨j', o', rfl, ?_, h4⟩
        rw [look_ne ?_]; exact h2
        rintro rfl; exact hne rfl
      · refine .inr ⟨fun j' o' hj => ?_, h2⟩
        rcases look_cons hj with ⟨rfl, _⟩ | ⟨_, hj⟩
        · exact fun e => hne e.symm
        · exact h1 j' o' hj
theorem putR_look {r : Nat → Nat} : ∀ {rs : Sto}, (∀ j j' o o', look rs j = some o → look rs j' = some o' → r j = r j' → j = j') → ∀ {j : Nat} {o : AObj}, look rs j = some o → look (putR r s rs) (r j) = some (renO r o)
  | [], _, _, _, h => by simp [look] at h
  | (j0, x) :: l, hinj, j, o, h => by
    simp only [putR, look_setS]
    rcases look_cons h with ⟨rfl, rfl⟩ | ⟨hne, h'⟩
    · exact look_self
    · rw [look_ne fun e => hne (hinj j j0 o x h look_self e)]
      refine putR_look (fun a b o1 o2 ha hb e => ?_) h'
      by_cases ha0 : a = j0
      · by_cases hb0 : b = j0
        · rw [ha0, hb0]
        · subst ha0
          exact hinj a b x o2 look_self (by rw [look_ne hb0]; exact hb) e
      · by_cases hb0 : b = j0
        · subst hb0
          exact hinj a b o1 x (by rw [look_ne ha0]; exact ha) look_self e
        · exact hinj a b o1 o2 (by rw [look_ne ha0]; exact ha) (by rw [look_ne hb0]; exact hb) e
end
end Go.Abs
namespace Go.Abs
open Go
variable {P : Program} {c : Ctx} {T : Tab} {σ : Sig} {φ : Pl} {sto : Sto} {w : World}
def phC (φ : Pl) (ρ : List (Nat × Nat)) : Pl := fun j => match look ρ j with | some i => φ i | none => none
theorem phC_at {φ : Pl} {ρ : List (Nat × Nat)} {j i : Nat} (h : look ρ j = some i) : phC φ ρ j = φ i := by simp [phC, h]
theorem hasK_look {sto : Sto} {i : Nat} (h : hasK sto i = true) : ∃ o, look sto i = some o := by
  unfold hasK at h
  split at h
  · exact ⟨_, by assumption⟩
  · cases h
section
variable {k : Nat} {ρ : List (Nat × Nat)} {st : St} {cs : Sto}
theorem unC (hb : bigK ρ = true) (hp : Pass st (rn k ρ) ρ cs) {x : AC} {v : Value} (hin : acIn cs x = true) (h : RepC σ φ st.sto (renC (rn k ρ) x) v) : RepC σ (phC φ ρ) cs x v := by
  have key : ∀ {j : Nat}, hasK cs j = true → ∃ o i, look cs j = some o ∧ look ρ j = some i ∧ rn k ρ j = i ∧ look st.sto i = some (renO (rn k ρ) o) := by
    intro j hj
    obtain ⟨o, ho⟩ := hasK_look hj
    obtain ⟨i, h1, h2⟩ := hp.look ho
    exact ⟨o, i, ho, h1, rn_old hb h1, h2⟩
  cases x with
  | d x => exact .d h.d_inv
  | junk =>
    cases h with
    | junk h => exact .junk h
    | dead hx h => exact .junk h
  | own j n =>
    obtain ⟨o, i, h1, h2, h3, h4⟩ := key hin
    simp only [renC, h3] at h
    cases h with
    | ownNil hl hp' => rw [h4] at hl; cases o <;> simp [renO] at hl; obtain ⟨rfl, rfl, rfl⟩ := hl; exact .ownNil h1 ((phC_at h2).trans hp')
    | own hl hn hp' => rw [h4] at hl; cases o <;> simp [renO] at hl; obtain ⟨rfl, rfl, rfl⟩ := hl; exact .own h1 hn ((phC_at h2).trans hp')
    | dead hx _ => simp [acIn, hasK_of h4] at hx
  | sub j lo n =>
    obtain ⟨o, i, h1, h2, h3, h4⟩ := key hin
    simp only [renC, h3] at h
    cases h with
    | sub hl hn hc hA => rw [h4] at hl; cases o <;> simp [renO] at hl; obtain ⟨rfl, rfl, rfl⟩ := hl; exact .sub h1 hn hc (fun h0 => by rw [phC_at h2]; exact hA h0)
    | dead hx _ => simp [acIn, hasK_of h4] at hx
  | ref j off =>
    obtain ⟨o, i, h1, h2, h3, h4⟩ := key hin
    simp only [renC, h3] at h
    cases h with
    | ref hl hp' => rw [h4] at hl; cases o <;> simp [renO] at hl; exact .ref h1 ((phC_at h2).trans hp')
    | dead hx _ => simp [acIn, hasK_of h4] at hx
  | rref j m off =>
    obtain ⟨o, i, h1, h2, h3, h4⟩ := key hin
    simp only [renC, h3] at h
    cases h with
    | rref hl hp' => rw [h4] at hl; cases o <;> simp [renO] at hl; obtain ⟨rfl, rfl, rfl⟩ := hl; exact .rref h1 ((phC_at h2).trans hp')
    | dead hx _ => simp [acIn, hasK_of h4] at hx
  | yl j =>
    obtain ⟨o, i, h1, h2, h3, h4⟩ := key hin
    simp only [renC, h3] at h
    cases h with
    | yl hl hp' => rw [h4] at hl; cases o <;> simp [renO] at hl; exact .yl h1 ((phC_at h2).trans hp')
    | dead hx _ => simp [acIn, hasK_of h4] at hx
  | bsl j off n =>
    obtain ⟨o, i, h1, h2, h3, h4⟩ := key hin
    simp only [renC, h3] at h
    cases h with
    | bsl hl hp' => rw [h4] at hl; cases o <;> simp [renO] at hl; exact .bsl h1 ((phC_at h2).trans hp')
    | dead hx _ => simp [acIn, hasK_of h4] at hx
  | mapr j =>
    obtain ⟨o, i, h1, h2, h3, h4⟩ := key hin
    simp only [renC, h3] at h
    cases h with
    | mapr hl hp' => rw [h4] at hl; cases o <;> simp [renO] at hl; exact .mapr h1 ((phC_at h2).trans hp')
    | dead hx _ => simp [acIn, hasK_of h4] at hx
theorem unCs (hb : bigK ρ = true) (hp : Pass st (rn k ρ) ρ cs) : ∀ {xs : List AC} {vs : List Value}, acsIn cs xs = true → All2 (RepC σ φ st.sto) (renCs (rn k ρ) xs) vs → All2 (RepC σ (phC φ ρ) cs) xs vs
  | [], [], _, _ => trivial
  | _ :: _, _ :: _, hi, h => by
    simp only [acsIn, Bool.and_eq_true] at hi
    exact ⟨unC hb hp hi.1 h.1, unCs hb hp hi.2 h.2⟩
  | [], _ :: _, _, h => h.elim
  | _ :: _, [], _, h => h.elim
theorem unV (hb : bigK ρ = true) (hp : Pass st (rn k ρ) ρ cs) {x : AV} {v : Value} (hi : avIn cs x = true) (h : RepV σ φ st.sto (renV (rn k ρ) x) v) : RepV σ (phC φ ρ) cs x v := by
  cases x with
  | one c => exact unC hb hp hi h
  | agg cs => obtain ⟨us, rfl, h⟩ := h; exact ⟨us, rfl, unCs hb hp hi h⟩
  | tup ts =>
    obtain ⟨us, rfl, h⟩ := h
    refine ⟨us, rfl, ?_⟩
    simp only [avIn] at hi
    induction ts generalizing us with
    | nil => cases us <;> simp_all [All2, renTs]
    | cons t ts ih =>
      cases us with
      | nil => exact h.elim
      | cons u us =>
        simp only [tsIn, Bool.and_eq_true] at hi
        refine ⟨?_, ih hi.2 us h.2⟩
        obtain ⟨g, cs⟩ := t
        cases g with
        | true => obtain ⟨vs, rfl, h1⟩ := h.1; exact ⟨vs, rfl, unCs hb hp hi.1 h1⟩
        | false => exact unCs hb hp hi.1 h.1
  | any => trivial
def avsIn (sto : Sto) : List AV → Bool
  | [] => true
  | v :: r => avIn sto v && avsIn sto r
theorem unL (hb : bigK ρ = true) (hp : Pass st (rn k ρ) ρ cs) : ∀ {xs : List AV} {vs : List Value}, avsIn cs xs = true → All2 (RepV σ φ st.sto) (renL (rn k ρ) xs) vs → All2 (RepV σ (phC φ ρ) cs) xs vs
  | [], [], _, _ => trivial
  | _ :: _, _ :: _, hi, h => by
    simp only [avsIn, Bool.and_eq_true] at hi
    exact ⟨unV hb hp hi.1 h.1, unL hb hp hi.2 h.2⟩
  | [], _ :: _, _, h => h.elim
  | _ :: _, [], _, h => h.elim
theorem look_renFr {r : Nat → Nat} : ∀ {fr : List (Nat × AV)} {s : Nat}, look (renFr r fr) s = (look fr s).map (renV r)
  | [], _ => rfl
  | (t, v) :: l, s => by
    simp only [renFr, look]
    cases Nat.beq t s with
    | true => rfl
    | false => simp only [cond_false]; exact look_renFr
theorem unHInv (hb : bigK ρ = true) (hij : injK ρ = true) (hp : Pass st (rn k ρ) ρ cs) (hs : stoIn cs cs = true) (h : HInv σ φ st.sto w) : HInv σ (phC φ ρ) cs w := by
  refine ⟨h.sig, fun j o hj => ?_, fun j j' o o' p p' hj hj' hne hpp hpp' => ?_⟩
  · obtain ⟨i, h1, h2⟩ := hp.look hj
    have ho := h.obj _ _ h2
    have hin := stoIn_look hs hj
    have hph := phC_at (φ := φ) h1
    cases o with
    | box xs =>
      obtain ⟨B, c', vs, t, a1, a2, a3, a4⟩ := ho
      exact ⟨B, c', vs, t, hph.trans a1, a2, unCs hb hp hin a3, a4⟩
    | row a b xs =>
      rcases ho with ⟨a1, a2⟩ | ⟨B, cap, arr, t, vs, a1, a2⟩
      · exact .inl ⟨a1, hph.trans a2⟩
      · exact .inr ⟨B, cap, arr, t, vs, hph.trans a1, a2⟩
    | map kg vg es =>
      obtain ⟨B, c', ents, a1, a2⟩ := ho
      exact ⟨B, c', ents, hph.trans a1, a2⟩
    | loop li fr s p =>
      obtain ⟨B, c', r, a1, a2, a3, a4, a5⟩ := ho
      refine ⟨B, c', r, hph.trans a1, a2, a3, fun s v hv => ?_, a5⟩
      obtain ⟨u, hu, hru⟩ := a4 s (renV (rn k ρ) v) (by rw [look_renFr, hv]; rfl)
      exact ⟨u, hu, unV hb hp (frIn_look hin hv) hru⟩
  · obtain ⟨i, h1, h2⟩ := hp.look hj
    obtain ⟨i', h1', h2'⟩ := hp.look hj'
    rw [phC_at h1] at hpp
    rw [phC_at h1'] at hpp'
    refine h.inj _ _ _ _ _ _ h2 h2' (fun e => hne ?_) hpp hpp'
    subst e
    exact injK_look hij h1 h1'
end
section
variable {σ' : Sig} {φ' φn : Pl} {rs ns : Sto} {r : Nat → Nat}
theorem reC (hR : ∀ j o, look rs j = some o → look ns (r j) = some (renO r o) ∧ φn (r j) = φ' j) {x : AC} {v : Value} (hin : acIn rs x = true) (h : RepC σ' φ' rs x v) : RepC σ' φn ns (renC r x) v := by
  cases h with
  | d h => exact .d h
  | ownNil h hp => obtain ⟨h1, h2⟩ := hR _ _ h; exact .ownNil h1 (h2.trans hp)
  | own h hn hp => obtain ⟨h1, h2⟩ := hR _ _ h; exact .own h1 hn (h2.trans hp)
  | sub h hn hc hA => obtain ⟨h1, h2⟩ := hR _ _ h; exact .sub h1 hn hc (fun h0 => by rw [h2]; exact hA h0)
  | ref h hp => obtain ⟨h1, h2⟩ := hR _ _ h; exact .ref h1 (h2.trans hp)
  | rref h hp => obtain ⟨h1, h2⟩ := hR _ _ h; exact .rref h1 (h2.trans hp)
  | yl h hp => obtain ⟨h1, h2⟩ := hR _ _ h; exact .yl h1 (h2.trans hp)
  | mapr h hp => obtain ⟨h1, h2⟩ := hR _ _ h; exact .mapr h1 (h2.trans hp)
  | bsl h hp => obtain ⟨h1, h2⟩ := hR _ _ h; exact .bsl h1 (h2.trans hp)
  | junk h => exact .junk h
  | dead hx h1 => rw [hin] at hx; cases hx
theorem reCs (hR : ∀ j o, look rs j = some o → look ns (r j) = some (renO r o) ∧ φn (r j) = φ' j) : ∀ {xs : List AC} {vs : List Value}, acsIn rs xs = true → All2 (RepC σ' φ' rs) xs vs → All2 (RepC σ' φn ns) (renCs r xs) vs
  | [], [], _, _ => trivial
  | _ :: _, _ :: _, hi, h => by
    simp only [acsIn, Bool.and_eq_true] at hi
    exact ⟨reC hR hi.1 h.1, reCs hR hi.2 h.2⟩
  | [], _ :: _, _, h => h.elim
  | _ :: _, [], _, h => h.elim
theorem reV (hR : ∀ j o, look rs j = some o → look ns (r j) = some (renO r o) ∧ φn (r j) = φ' j) {x : AV} {v : Value} (hi : avIn rs x = true) (h : RepV σ' φ' rs x v) : RepV σ' φn ns (renV r x) v := by
  cases x with
  | one c => exact reC hR hi h
  | agg cs => obtain ⟨us, rfl, h⟩ := h; exact ⟨us, rfl, reCs hR hi h⟩
  | tup ts =>
    obtain ⟨us, rfl, h⟩ := h
    refine ⟨us, rfl, ?_⟩
    simp only [avIn] at hi
    induction ts generalizing us with
    | nil => cases us <;> simp_all [All2, renTs]
    | cons t ts ih =>
      cases us with
      | nil => exact h.elim
      | cons u us =>
        simp only [tsIn, Bool.and_eq_true] at hi
        refine ⟨?_, ih hi.2 us h.2⟩
        obtain ⟨g, cs⟩ := t
        cases g with
        | true => obtain ⟨vs, rfl, h1⟩ := h.1; exact ⟨vs, rfl, reCs hR hi.1 h1⟩
        | false => exact reCs hR hi.1 h.1
  | any => trivial
theorem reObj (hR : ∀ j o, look rs j = some o → look ns (r j) = some (renO r o) ∧ φn (r j) = φ' j) {j : Nat} {o : AObj} (hj : look rs j = some o) (hi : aoIn rs o = true) {w' : World} (h : ObjRep σ' φ' rs w' j o) :
    ObjRep σ' φn ns w' (r j) (renO r o) := by
  have hph := (hR j o hj).2
  cases o with
  | box xs =>
    obtain ⟨B, c', vs, t, a1, a2, a3, a4⟩ := h
    exact ⟨B, c', vs, t, hph.trans a1, a2, reCs hR hi a3, a4⟩
  | row a b xs =>
    rcases h with ⟨a1, a2⟩ | ⟨B, cap, arr, t, vs, a1, a2⟩
    · exact .inl ⟨a1, hph.trans a2⟩
    · exact .inr ⟨B, cap, arr, t, vs, hph.trans a1, a2⟩
  | map kg vg es =>
    obtain ⟨B, c', ents, a1, a2⟩ := h
    exact ⟨B, c', ents, hph.trans a1, a2⟩
  | loop li fr s p =>
    obtain ⟨B, c', lp, a1, a2, a3, a4, a5⟩ := h
    refine ⟨B, c', lp, hph.trans a1, a2, a3, fun s v hv => ?_, a5⟩
    rw [look_renFr] at hv
    cases hl : look fr s with
    | none => rw [hl] at hv; cases hv
    | some v0 =>
      rw [hl] at hv; cases hv
      obtain ⟨u, hu, hru⟩ := a4 s v0 hl
      exact ⟨u, hu, reV hR (frIn_look hi hl) hru⟩
end
theorem compat_renO {r : Nat → Nat} {e o : AObj} (h : compat e o) : compat e (renO r o) := by
  cases e <;> cases o <;> simp_all [compat, renO]
def allIn (cs : Sto) : List (Nat × Nat) → Bool
  | [] => true
  | (j, _) :: r => hasK cs j && allIn cs r
theorem allIn_look {cs : Sto} {ρ : List (Nat × Nat)} : allIn cs ρ = true → ∀ {j i : Nat}, look ρ j = some i → hasK cs j = true := by
  induction ρ with
  | nil => intro _ j i h; simp [look] at h
  | cons p r ih =>
    obtain ⟨j', i'⟩ := p
    intro hb j i h
    simp only [allIn, Bool.and_eq_true] at hb
    rcases look_cons h with ⟨rfl, rfl⟩ | ⟨_, h⟩
    · exact hb.1
    · exact ih hb.2 h
theorem ret_rel {st : St} {a : Act} {o : Oper} {cargs : List AV} {cs rs : Sto} {rav : AV} (k : Nat) (ρ : List (Nat × Nat)) (hr : Rel c st a w σ φ) (hd : dstOk c.n o.dst = true)
    (hpass : Pass st (rn k ρ) ρ cs) (hcomp : CompatL st (rn k ρ) ρ rs)
    (hk : (bigK ρ && injK ρ && allIn cs ρ && keysNd ρ && keysOk ρ rs && avsIn cs cargs && stoIn cs cs && avIn rs rav && stoIn rs rs && Nat.ble (k + 16) 1000000) = true) (hfresh : FreshR k st)
    {v : Value} {w' : World} {σ' : Sig} {φ' : Pl} (hret : RetP rav rs w σ (phC φ ρ) (MOf (phC φ ρ) cs) v w' σ' φ') :
    ∃ σ2 φ2, Rel c ⟨putO o.dst (renV (rn k ρ) rav) st.fr, putR (rn k ρ) (delL ρ st.sto) rs⟩ (a.put o.dst v) w' σ2 φ2 ∧ ∀ j o, look rs j = some o → φ2 (rn k ρ j) = φ' j := by
  simp only [Bool.and_eq_true, Nat.ble_eq] at hk
  obtain ⟨⟨⟨⟨⟨⟨⟨⟨⟨hbig, hinj⟩, hall⟩, hnd⟩, hko⟩, hai⟩, hci⟩, hri⟩, hrs⟩, hkl⟩ := hk
  let φn : Pl := fun i => if k ≤ i ∧ i < k + 16 then φ' (i - k) else φ i
  have hφin : ∀ {j : Nat}, j < 16 → φn (k + j) = φ' j := by
    intro j hj
    show (if _ then _ else _) = _
    rw [if_pos ⟨Nat.le_add_right _ _, by omega⟩, Nat.add_sub_cancel_left]
  have hφout : ∀ {i : Nat}, (i < k ∨ k + 16 ≤ i) → φn i = φ i := by
    intro i hi
    show (if _ then _ else _) = _
    rw [if_neg (by omega)]
  have hout : ∀ {i : Nat} {o : AObj}, look st.sto i = some o → i < k ∨ k + 16 ≤ i := by
    intro i o hi
    rcases Nat.lt_or_ge i k with h1 | h1
    · exact .inl h1
    · rcases Nat.lt_or_ge i (k + 16) with h2 | h2
      · rw [(hfresh i h1 h2).1] at hi; cases hi
      · exact .inr h2
  -- what was handed over
  have hgave : ∀ {j i : Nat}, look ρ j = some i → ∃ o, look cs j = some o ∧ look st.sto i = some (renO (rn k ρ) o) := by
    intro j i hj
    obtain ⟨o, ho⟩ := hasK_look (allIn_look hall hj)
    obtain ⟨i', h1, h2⟩ := hpass.look ho
    rw [hj] at h1; cases h1
    exact ⟨o, ho, h2⟩
  have hMof : ∀ {b : Nat}, MOf (phC φ ρ) cs b → ∃ j i o p, look ρ j = some i ∧ look st.sto i = some o ∧ φ i = some p ∧ p.1 = b := by
    rintro b ⟨j, o, p, h1, h2, h3⟩
    obtain ⟨i, h4, h5⟩ := hpass.look h1
    rw [phC_at h4] at h2
    exact ⟨j, i, _, p, h4, h5, h2, h3⟩
  have hR : ∀ j o, look rs j = some o → look (putR (rn k ρ) (delL ρ st.sto) rs) (rn k ρ j) = some (renO (rn k ρ) o) ∧ φn (rn k ρ j) = φ' j := by
    intro j o hj
    refine ⟨putR_look (fun j j' o o' hj hj' e => ?_) hj, ?_⟩
    · rcases keysOk_look hko hj with h1 | ⟨i, h1⟩ <;> rcases keysOk_look hko hj' with h2 | ⟨i', h2⟩
      · rw [rn_new h1, rn_new h2] at e; omega
      · rw [rn_new h1, rn_old hbig h2] at e
        obtain ⟨_, _, h3⟩ := hgave h2
        have := hout h3; omega
      · rw [rn_old hbig h1, rn_new h2] at e
        obtain ⟨_, _, h3⟩ := hgave h1
        have := hout h3; omega
      · rw [rn_old hbig h1, rn_old hbig h2] at e
        subst e
        exact injK_look hinj h1 h2
    · rcases keysOk_look hko hj with h1 | ⟨i, h1⟩
      · rw [rn_new h1]; exact hφin h1
      · rw [rn_old hbig h1]
        obtain ⟨_, _, h3⟩ := hgave h1
        rw [hφout (hout h3), hret.pin j (bigK_look hbig h1), phC_at h1]
  have hns : ∀ {i : Nat} {e : AObj}, look (putR (rn k ρ) (delL ρ st.sto) rs) i = some e → (∃ j o, look rs j = some o ∧ e = renO (rn k ρ) o ∧ ((j < 16 ∧ i = k + j) ∨ look ρ j = some i)) ∨ (look st.sto i = some e ∧ ∀ j, look ρ j ≠ some i) := by
    intro i e h
    rcases look_putR h with ⟨j, o, rfl, h1, rfl⟩ | ⟨_, h1⟩
    · refine .inl ⟨j, o, h1, rfl, ?_⟩
      rcases keysOk_look hko h1 with h2 | ⟨i, h2⟩
      · exact .inl ⟨h2, rn_new h2⟩
      · exact .inr (by rw [rn_old hbig h2]; exact h2)
    · exact .inr (look_delL h1)
  have hE : Ext (fun i => k ≤ i ∧ i < k + 16) φ φn st.sto (putR (rn k ρ) (delL ρ st.sto) rs) := by
    intro i hX
    cases hl : look (putR (rn k ρ) (delL ρ st.sto) rs) i with
    | none => exact .inl rfl
    | some e =>
      rcases hns hl with ⟨j, o, h1, rfl, h2⟩ | ⟨h1, _⟩
      · rcases h2 with ⟨h2, rfl⟩ | h2
        · exact absurd ⟨Nat.le_add_right _ _, by omega⟩ hX
        · obtain ⟨o', _, h4⟩ := hgave h2
          exact .inr ⟨_, h4, hφout (hout h4), _, rfl, compat_renO (hcomp.look h1 h2 h4)⟩
      · exact .inr ⟨e, h1, hφout (hout h1), e, rfl, compat.refl _⟩
  -- an old object that was not handed over lies elsewhere
  have hap : ∀ {i : Nat} {e : AObj} {p : Nat × Nat}, look st.sto i = some e → (∀ j, look ρ j ≠ some i) → φ i = some p → p.1 < w.heap.size ∧ ¬ MOf (phC φ ρ) cs p.1 := by
    intro i e p hi hn hp
    refine ⟨(hr.inv.obj _ _ hi).lt hp, fun hM => ?_⟩
    obtain ⟨j, i', o, p', h1, h2, h3, h4⟩ := hMof hM
    exact hr.inv.inj _ _ _ _ _ _ h2 hi (fun e => hn j (e ▸ h1)) h3 hp h4
  have hinv : HInv σ' φn (putR (rn k ρ) (delL ρ st.sto) rs) w' := by
    refine ⟨hret.inv.sig, fun i e hi => ?_, fun i i' e1 e2 p p' h1 h2 hne hp hp' => ?_⟩
    · rcases hns hi with ⟨j, o, h1, rfl, h2⟩ | ⟨h1, hn⟩
      · have := reObj hR h1 (stoIn_look hrs h1) (hret.inv.obj _ _ h1)
        rcases h2 with ⟨h2, rfl⟩ | h2
        · rwa [rn_new h2] at this
        · rwa [rn_old hbig h2] at this
      · have ho := hr.inv.obj _ _ h1
        refine ho.ext (X := fun i => k ≤ i ∧ i < k + 16) hret.le hE (fun j hj => stoMen_look (hfresh j hj.1 hj.2).2.2 h1) (hφout (hout h1)) fun B cc hB => ?_
        obtain ⟨h3, h4⟩ := hap h1 hn hB
        refine ⟨hret.kept.block B h3 h4, ?_⟩
        have hs := ho.sig hB
        rw [hs]
        cases hb : σ' B with
        | none => rfl
        | some cs' =>
          rcases hret.fresh B (by rw [hb]; simp) with h5 | h5 | h5
          · exact absurd hs h5
          · simp only at h3; omega
          · exact absurd h5 h4
    · have old : ∀ {i : Nat} {e : AObj} {p : Nat × Nat}, look st.sto i = some e → φn i = some p → φ i = some p := by
        intro i e p hi hp
        rwa [hφout (hout hi)] at hp
      have new : ∀ {j i : Nat} {o : AObj} {p : Nat × Nat}, look rs j = some o → ((j < 16 ∧ i = k + j) ∨ look ρ j = some i) → φn i = some p → φ' j = some p ∧ (w.heap.size ≤ p.1 ∨ MOf (phC φ ρ) cs p.1) := by
        intro j i o p hj hji hp
        have : φn (rn k ρ j) = φ' j := (hR j o hj).2
        have hi : rn k ρ j = i := by
          rcases hji with ⟨h, rfl⟩ | h
          · exact rn_new h
          · exact rn_old hbig h
        rw [hi, hp] at this
        exact ⟨this.symm, hret.mine _ _ _ hj this.symm⟩
      rcases hns h1 with ⟨j, o1, hj, _, hji⟩ | ⟨hi1, hn1⟩ <;> rcases hns h2 with ⟨j', o2, hj', _, hji'⟩ | ⟨hi2, hn2⟩
      · refine hret.inv.inj _ _ _ _ _ _ hj hj' (fun e => hne ?_) (new hj hji hp).1 (new hj' hji' hp').1
        subst e
        rcases hji with ⟨a1, rfl⟩ | a1 <;> rcases hji' with ⟨a2, rfl⟩ | a2
        · rfl
        · have := bigK_look hbig a2; omega
        · have := bigK_look hbig a1; omega
        · rw [a1] at a2; cases a2; rfl
      · obtain ⟨_, h3⟩ := new hj hji hp
        obtain ⟨h4, h5⟩ := hap hi2 hn2 (old hi2 hp')
        intro e
        rcases h3 with h3 | h3
        · omega
        · rw [e] at h3; exact h5 h3
      · obtain ⟨_, h3⟩ := new hj' hji' hp'
        obtain ⟨h4, h5⟩ := hap hi1 hn1 (old hi1 hp)
        intro e
        rcases h3 with h3 | h3
        · omega
        · rw [← e] at h3; exact h5 h3
      · exact hr.inv.inj _ _ _ _ _ _ hi1 hi2 hne (old hi1 hp) (old hi2 hp')
  have hmineM : ∀ {b : Nat}, MOf (phC φ ρ) cs b → c.w0.heap.size ≤ b ∨ c.M b := by
    intro b hM
    obtain ⟨j, i', o, p', h1, h2, h3, h4⟩ := hMof hM
    have := hr.mine _ _ _ h2 h3
    rwa [h4] at this
  refine ⟨σ', φn, hr.putTo (st' := ⟨st.fr, putR (rn k ρ) (delL ρ st.sto) rs⟩) hd (Sig.le_trans hr.le hret.le) (fun b hb => ?_) hinv (fun i e p hi hp => ?_)
    ⟨hret.kept.os.trans hr.fra.os, hret.kept.tape.trans hr.fra.tape, hret.kept.output.trans hr.fra.output, Nat.le_trans hr.fra.size hret.kept.size, Nat.le_trans hr.fra.drawn hret.kept.drawn, fun b hb hM' => ?_⟩ (fun i hi => ?_)
    (fun _ => reV hR hri hret.rep) (fun s x _ hx => ⟨x, hx, fun z hz => hz.ext hret.le hE fun j hj => frMen_look (hfresh j hj.1 hj.2).2.1 hx⟩), fun j o hj => (hR j o hj).2⟩
  · rcases hret.fresh b hb with h1 | h1 | h1
    · exact hr.fresh b h1
    · exact .inr (.inl (Nat.le_trans hr.fra.size h1))
    · exact .inr (hmineM h1)
  · rcases hns hi with ⟨j, o, hj, _, hji⟩ | ⟨hi1, hn1⟩
    · have : φn (rn k ρ j) = φ' j := (hR j o hj).2
      have hi : rn k ρ j = i := by
        rcases hji with ⟨h, rfl⟩ | h
        · exact rn_new h
        · exact rn_old hbig h
      rw [hi, hp] at this
      rcases hret.mine _ _ _ hj this.symm with h1 | h1
      · exact .inl (Nat.le_trans hr.fra.size h1)
      · exact hmineM h1
    · rw [hφout (hout hi1)] at hp
      exact hr.mine _ _ _ hi1 hp
  · rw [hret.kept.block b (Nat.lt_of_lt_of_le hb hr.fra.size) fun hM => ?_]
    · exact hr.fra.block b hb hM'
    · rcases hmineM hM with h | h
      · omega
      · exact hM' h
  · rw [hφout (.inr (by omega))]
    exact hr.pin i hi
theorem call_ret {st : St} {a : Act} {o : Oper} {f : FuncId} {cargs : List AV} {cs rs : Sto} {rav : AV} {vs : List Value} (k : Nat) (ρ : List (Nat × Nat)) (hr : Rel c st a w σ φ) (hd : dstOk c.n o.dst = true)
    (hC : CallA P f cargs cs rav rs) (hargs : All2 (RepV σ φ st.sto) (renL (rn k ρ) cargs) vs) (hpass : Pass st (rn k ρ) ρ cs) (hcomp : CompatL st (rn k ρ) ρ rs)
    (hk : (bigK ρ && injK ρ && allIn cs ρ && keysNd ρ && keysOk ρ rs && avsIn cs cargs && stoIn cs cs && avIn rs rav && stoIn rs rs && Nat.ble (k + 16) 1000000) = true) (hfresh : FreshR k st) :
    Calls P f vs.toArray w fun e w' => ∃ v σ' φ', e = .returned v ∧ Rel c ⟨putO o.dst (renV (rn k ρ) rav) st.fr, putR (rn k ρ) (delL ρ st.sto) rs⟩ (a.put o.dst v) w' σ' φ' := by
  have hk' := hk
  simp only [Bool.and_eq_true, Nat.ble_eq] at hk'
  obtain ⟨⟨⟨⟨⟨⟨⟨⟨⟨hbig, hinj⟩, hall⟩, hnd⟩, hko⟩, hai⟩, hci⟩, hri⟩, hrs⟩, hkl⟩ := hk'
  refine (hC.run w σ (phC φ ρ) vs (unHInv hbig hinj hpass hci hr.inv) (unL hbig hpass hai hargs)).mono ?_
  rintro e w' ⟨v, σ', φ', rfl, hret⟩
  obtain ⟨σ2, φ2, h2, _⟩ := ret_rel k ρ hr hd hpass hcomp hk hfresh hret
  exact ⟨v, σ2, φ2, rfl, h2⟩
theorem run_call {a : Act} {o : Oper} {fop : Operand} {args : Array Operand} {ats : Array TypeId} {f : FuncId} {cs : List Value} (ho : o.op = .call { callee := .value fop, args := args, argTypes := ats })
    (hf : a.eval fop = .func (.func f) #[] cs.toArray) (hfn : ∃ fn, P.funcs[f]? = some fn ∧ (fn.name == "runtime.NumGoroutine") = false ∧ fn.body.isSome = true) :
    (execOp a.eval o).run P w = .ok (.enter f (args.toList.map a.eval ++ cs).toArray) w := by
  obtain ⟨fn, h1, h2, h3⟩ := hfn
  have h3' : fn.body.isNone = false := by cases hb : fn.body <;> simp_all
  have e : (#[] ++ args.map a.eval ++ cs.toArray) = (args.toList.map a.eval ++ cs).toArray := by
    apply Array.ext'; simp
  simp only [execOp, ho, resolve, Deferred.ofValue, hf, invoke, callFunc, Sem.run_bind, Sem.run_pure, Result.andThen_ok]
  simp only [show (program).run P w = .ok P w from rfl, Result.andThen_ok, h1, h2, h3', Bool.false_eq_true, if_false, Sem.run_pure]
  rw [e]
theorem renL_app {r : Nat → Nat} : ∀ {a b : List AV}, renL r (a ++ b) = renL r a ++ renL r b
  | [], _ => rfl
  | _ :: a, b => by simp only [List.cons_append, renL, renL_app (a := a)]
theorem renL_caps {r : Nat → Nat} : ∀ {ds : List D}, renL r (ds.map fun x => .one (.d x)) = ds.map fun x => .one (.d x)
  | [] => rfl
  | _ :: r => by simp only [List.map_cons, renL, renV, renC, renL_caps (ds := r)]
theorem okops_callM {ops : Array Oper} {o : Oper} {rest : List Oper} {st : St} {K : St → Prop} {fop : Operand} {args : Array Operand} {ats : Array TypeId} {f : FuncId} {caps : List D} {cargs : List AV} {cs rs : Sto} {rav : AV} (k : Nat) (ρ : List (Nat × Nat))
    (ho : o.op = .call { callee := .value fop, args := args, argTypes := ats }) (hg : o.guard = none) (hd : dstOk c.n o.dst = true) (hf : ev st fop = some (.one (.d (.fn f caps))))
    (ha : evL st args.toList = some (renL (rn k ρ) cargs)) (hC : CallA P f (cargs ++ caps.map fun x => .one (.d x)) cs rav rs) (hpass : Pass st (rn k ρ) ρ cs) (hcomp : CompatL st (rn k ρ) ρ rs)
    (hk : (bigK ρ && injK ρ && allIn cs ρ && keysNd ρ && keysOk ρ rs && avsIn cs (cargs ++ caps.map fun x => .one (.d x)) && stoIn cs cs && avIn rs rav && stoIn rs rs && Nat.ble (k + 16) 1000000) = true) (hfresh : FreshR k st)
    (h : OkOps P c ops rest ⟨putO o.dst (renV (rn k ρ) rav) st.fr, putR (rn k ρ) (delL ρ st.sto) rs⟩ K) : OkOps P c ops (o :: rest) st K := by
  refine okops_enter hg fun a w σ φ hr => ?_
  have hfr := ev_rep hr hf
  replace hfr := RepC.d_inv hfr
  generalize hfe : a.eval fop = fv at hfr
  cases hfr with
  | fn cvs hl hcs =>
    have hcaps : All2 (RepV σ φ st.sto) (caps.map fun x => .one (.d x)) cvs := by
      refine All2.of_get (by simp [hl]) fun j x v hx hv => ?_
      simp only [List.getElem?_map, Option.map_eq_some_iff] at hx
      obtain ⟨d, hd, rfl⟩ := hx
      exact RepC.d (hcs j d v hd hv)
    refine ⟨f, _, _, run_call ho hfe hC.fn, call_ret (o := o) k ρ hr hd hC (by rw [renL_app, renL_caps]; exact (evL_rep hr ha).append hcaps) hpass hcomp hk hfresh, ?_⟩
    rintro e w' ⟨v, σ', φ', rfl, hr'⟩
    exact ⟨v, _, σ', φ', rfl, hr', h⟩
theorem renL_d {r : Nat → Nat} : ∀ {avs : List AV}, avsD avs = true → renL r avs = avs := by
  have h1 : ∀ {cs : List AC}, acsD cs = true → renCs r cs = cs := by
    intro cs
    induction cs with
    | nil => intro _; rfl
    | cons x l ih =>
      intro h
      cases x with
      | d x => simp only [acsD] at h; simp only [renCs, renC, ih h]
      | _ => simp [acsD] at h
  intro avs
  induction avs with
  | nil => intro _; rfl
  | cons v l ih =>
    intro h
    simp only [avsD, Bool.and_eq_true] at h
    simp only [renL, ih h.2]
    congr 1
    cases v with
    | one x => cases x <;> first | rfl | simp [avD] at h
    | agg cs => simp only [renV]; rw [h1 h.1]
    | _ => simp [avD] at h
theorem avsIn_d {s : Sto} : ∀ {avs : List AV}, avsD avs = true → avsIn s avs = true := by
  have h1 : ∀ {cs : List AC}, acsD cs = true → acsIn s cs = true := by
    intro cs
    induction cs with
    | nil => intro _; rfl
    | cons x l ih =>
      intro h
      cases x with
      | d x => simp only [acsD] at h; simp only [acsIn, acIn, ih h, Bool.and_self]
      | _ => simp [acsD] at h
  intro avs
  induction avs with
  | nil => intro _; rfl
  | cons v l ih =>
    intro h
    simp only [avsD, Bool.and_eq_true] at h
    simp only [avsIn, ih h.2, Bool.and_true]
    cases v with
    | one x => cases x <;> first | rfl | simp [avD] at h
    | agg cs => exact h1 h.1
    | _ => simp [avD] at h
theorem okops_call {ops : Array Oper} {o : Oper} {rest : List Oper} {st : St} {K : St → Prop} {fop : Operand} {args : Array Operand} {ats : Array TypeId} {f : FuncId} {caps : List D} {avs : List AV} {rav : AV} {rsto : Sto} (k : Nat)
    (ho : o.op = .call { callee := .value fop, args := args, argTypes := ats }) (hg : o.guard = none) (hd : dstOk c.n o.dst = true) (hf : ev st fop = some (.one (.d (.fn f caps))))
    (ha : evL st args.toList = some avs) (hD : avsD avs = true) (hC : CallA P f (avs ++ caps.map fun x => .one (.d x)) [] rav rsto)
    (hk : (keysOk [] rsto && Nat.ble (k + 16) 1000000 && avIn rsto rav && stoIn rsto rsto) = true) (hfresh : FreshR k st)
    (h : OkOps P c ops rest ⟨putO o.dst (renV (rn k []) rav) st.fr, putR (rn k []) st.sto rsto⟩ K) : OkOps P c ops (o :: rest) st K := by
  simp only [Bool.and_eq_true] at hk
  have hcd : ∀ {ds : List D}, avsD (ds.map fun x => AV.one (.d x)) = true := by
    intro ds
    induction ds with
    | nil => rfl
    | cons x l ih => simp only [List.map_cons, avsD, avD, ih, Bool.and_self]
  have hap : ∀ {a b : List AV}, avsD a = true → avsD b = true → avsD (a ++ b) = true := by
    intro a b
    induction a with
    | nil => intro _ h; exact h
    | cons x l ih =>
      intro h h'
      simp only [avsD, Bool.and_eq_true] at h
      simp only [List.cons_append, avsD, h.1, ih h.2 h', Bool.and_self]
  refine okops_callM k [] ho hg hd hf (cargs := avs) (by rw [renL_d hD]; exact ha) hC trivial ?_ ?_ hfresh h
  · have : ∀ {l : Sto}, CompatL st (rn k []) [] l := by
      intro l
      induction l with
      | nil => trivial
      | cons p l ih => exact ⟨fun i e h => by simp [look] at h, ih⟩
    exact this
  · simp only [bigK, injK, allIn, keysNd, stoIn, Bool.true_and, Bool.and_true, hk.1.1.1, hk.1.1.2, hk.1.2, hk.2, avsIn_d (hap hD hcd)]
end Go.Abs
namespace Go.Abs
open Go
variable {P : Program} {c : Ctx} {T : Tab} {σ : Sig} {φ : Pl} {sto : Sto} {w : World}
def flatD : D → Bool
  | .int _ _ | .bool _ | .str _ | .nil | .raw _ => true
  | _ => false
def flatCs : List AC → Bool
  | [] => true
  | .d x :: r => flatD x && flatCs r
  | _ :: _ => false
def flatTs : List (Bool × List AC) → Bool
  | [] => true
  | t :: r => flatCs t.2 && flatTs r
def flatV : AV → Bool
  | .one (.d x) => flatD x
  | .agg cs => flatCs cs
  | .tup ts => flatTs ts
  | _ => false
theorem flatD_rep {σ' : Sig} {x : D} {v : Value} (hf : flatD x = true) (h : Rep σ x v) : Rep σ' x v := by
  cases h with
  | int h => exact .int h
  | bool => exact .bool
  | str h => exact .str h
  | nil => exact .nil
  | raw h => exact .raw h
  | sl => simp [flatD] at hf
  | ptr => simp [flatD] at hf
  | fn => simp [flatD] at hf
theorem flatCs_rep {σ' : Sig} {φ' : Pl} {sto' : Sto} : ∀ {cs : List AC} {vs : List Value}, flatCs cs = true → All2 (RepC σ φ sto) cs vs → All2 (RepC σ' φ' sto') cs vs
  | [], [], _, _ => trivial
  | .d _ :: _, _ :: _, hd, h => by
    simp only [flatCs, Bool.and_eq_true] at hd
    exact ⟨by have h1 := RepC.d_inv h.1; exact .d (flatD_rep hd.1 h1), flatCs_rep hd.2 h.2⟩
  | [], _ :: _, _, h => h.elim
  | _ :: _, [], _, h => h.elim
  | .own _ _ :: _, _ :: _, hd, _ => by simp [flatCs] at hd
  | .sub _ _ _ :: _, _ :: _, hd, _ => by simp [flatCs] at hd
  | .ref _ _ :: _, _ :: _, hd, _ => by simp [flatCs] at hd
  | .rref _ _ _ :: _, _ :: _, hd, _ => by simp [flatCs] at hd
  | .junk :: _, _ :: _, hd, _ => by simp [flatCs] at hd
  | .yl _ :: _, _ :: _, hd, _ => by simp [flatCs] at hd
  | .mapr _ :: _, _ :: _, hd, _ => by simp [flatCs] at hd
  | .bsl _ _ _ :: _, _ :: _, hd, _ => by simp [flatCs] at hd
theorem flatV_rep {σ' : Sig} {φ' : Pl} {sto' : Sto} {v : AV} {u : Value} (hf : flatV v = true) (h : RepV σ φ sto v u) : RepV σ' φ' sto' v u := by
  cases v with
  | one c =>
    cases c with
    | d x => replace h := RepC.d_inv h; exact RepC.d (flatD_rep hf h)
    | _ => simp [flatV] at hf
  | agg cs => obtain ⟨us, rfl, h⟩ := h; exact ⟨us, rfl, flatCs_rep hf h⟩
  | tup ts =>
    obtain ⟨us, rfl, h⟩ := h
    refine ⟨us, rfl, ?_⟩
    simp only [flatV] at hf
    induction ts generalizing us with
    | nil => cases us <;> simp_all [All2]
    | cons t ts ih =>
      cases us with
      | nil => exact h.elim
      | cons u us =>
        simp only [flatTs, Bool.and_eq_true] at hf
        refine ⟨?_, ih hf.2 us h.2⟩
        obtain ⟨g, cs⟩ := t
        cases g with
        | true => obtain ⟨vs, rfl, h1⟩ := h.1; exact ⟨vs, rfl, flatCs_rep hf.1 h1⟩
        | false => exact flatCs_rep hf.1 h.1
  | any => simp [flatV] at hf
theorem okops_callF {ops : Array Oper} {o : Oper} {rest : List Oper} {st ss : St} {K : St → Prop} {fop : Operand} {args : Array Operand} {ats : Array TypeId} {f : FuncId} {caps : List D} {avs : List AV} {rav : AV} {rsto : Sto}
    (ho : o.op = .call { callee := .value fop, args := args, argTypes := ats }) (hg : o.guard = none) (hd : dstOk c.n o.dst = true) (hi : Imp c st ss) (hf : ev ss fop = some (.one (.d (.fn f caps))))
    (ha : evL ss args.toList = some avs) (hD : avsD avs = true) (hC : CallA P f (avs ++ caps.map fun x => .one (.d x)) [] rav rsto) (hfl : flatV rav = true)
    (h : OkOps P c ops rest ⟨putO o.dst rav st.fr, st.sto⟩ K) : OkOps P c ops (o :: rest) st K := by
  refine okops_enter hg fun a w σ φ hr => ?_
  obtain ⟨σs, φs, hs⟩ := hi a w σ φ hr
  have hfr := ev_rep hs hf
  replace hfr := RepC.d_inv hfr
  generalize hfe : a.eval fop = fv at hfr
  cases hfr with
  | fn cs hl hcs =>
    have hinv0 : HInv σs φs [] w := ⟨hs.inv.sig, fun _ _ h => by simp [look] at h, fun _ _ _ _ _ _ h => by simp [look] at h⟩
    have hargs := avsD_rep (σ' := σs) (φ' := φs) (sto' := []) (Sig.le_refl _) hD (evL_rep hs ha)
    have hcaps : All2 (RepV σs φs []) (caps.map fun x => .one (.d x)) cs := by
      refine All2.of_get (by simp [hl]) fun j x v hx hv => ?_
      simp only [List.getElem?_map, Option.map_eq_some_iff] at hx
      obtain ⟨d, hd, rfl⟩ := hx
      exact RepC.d (hcs j d v hd hv)
    refine ⟨f, _, _, run_call ho hfe hC.fn, hC.run w σs φs _ hinv0 (hargs.append hcaps), ?_⟩
    rintro e w' ⟨v, σ', φ', rfl, hret⟩
    have hM : ∀ b, ¬ MOf φs [] b := by rintro b ⟨id, e, p, h, _⟩; simp [look] at h
    have hblk : ∀ b, b < w.heap.size → w'.heap[b]? = w.heap[b]? := fun b hb => hret.kept.block b hb (hM b)
    have hE := Ext.refl φ st.sto
    have hinv : HInv σ φ st.sto w' := by
      refine ⟨fun b cs hb => ?_, fun i e hi => ?_, hr.inv.inj⟩
      · obtain ⟨t, f, hh⟩ := hr.inv.sig b cs hb
        exact ⟨t, f, (hblk b (Array.getElem?_eq_some_iff.1 hh).1).trans hh⟩
      · have ho := hr.inv.obj _ _ hi
        exact ho.ext (X := fun _ => False) (Sig.le_refl _) hE (fun j hj => hj.elim) rfl fun B cc hB => ⟨hblk B (ho.lt hB), rfl⟩
    refine ⟨v, _, σ, φ, rfl, hr.putTo (st' := st) hd hr.le hr.fresh hinv hr.mine
      ⟨hret.kept.os.trans hr.fra.os, hret.kept.tape.trans hr.fra.tape, hret.kept.output.trans hr.fra.output, Nat.le_trans hr.fra.size hret.kept.size, Nat.le_trans hr.fra.drawn hret.kept.drawn, fun b hb hM' => ?_⟩ hr.pin
      (fun _ => flatV_rep hfl hret.rep) (fun s x _ hx => ⟨x, hx, fun z hz => hz⟩), h⟩
    rw [hblk b (Nat.lt_of_lt_of_le hb hr.fra.size)]
    exact hr.fra.block b hb hM'
def oneDs : List AV → Option (List D)
  | [] => some []
  | .one (.d x) :: r => match oneDs r with | some l => some (x :: l) | none => none
  | _ :: _ => none
theorem oneDs_rep : ∀ {vs : List AV} {ds : List D} {us : List Value}, oneDs vs = some ds → All2 (RepV σ φ sto) vs us → All2 (Rep σ) ds us
  | [], ds, us, h, hr => by
    simp [oneDs] at h; subst h
    cases us with
    | nil => trivial
    | cons _ _ => exact hr.elim
  | v :: r, ds, us, h, hr => by
    cases us with
    | nil => exact hr.elim
    | cons u us =>
      cases v with
      | one c =>
        cases c with
        | d x =>
          simp only [oneDs] at h
          split at h <;> simp at h
          rename_i l hl
          subst h
          have h1 := RepC.d_inv hr.1
          exact ⟨h1, oneDs_rep hl hr.2⟩
        | _ => simp [oneDs] at h
      | _ => simp [oneDs] at h
theorem okops_makeFunc {ops : Array Oper} {o : Oper} {rest : List Oper} {st : St} {K : St → Prop} {f : FuncId} {caps : Array Operand} {avs : List AV} {ds : List D}
    (ho : o.op = .makeFunc (.func f) #[] caps) (hg : o.guard = none) (hd : dstOk c.n o.dst = true) (ha : evL st caps.toList = some avs) (hds : oneDs avs = some ds)
    (h : OkOps P c ops rest ⟨putO o.dst (.one (.d (.fn f ds))) st.fr, st.sto⟩ K) : OkOps P c ops (o :: rest) st K :=
  okops_run hg fun a w σ φ hr => by
    have h1 := oneDs_rep hds (evL_rep hr ha)
    refine ⟨.func (.func f) #[] (caps.toList.map a.eval).toArray, w, _, σ, φ, ?_, hr.put (v := .one (.d (.fn f ds))) hd (RepC.d (.fn _ h1.length.symm fun j d v hd hv => ?_)), h⟩
    · have e : (caps.toList.map a.eval).toArray = caps.map a.eval := by rw [← Array.toList_map, Array.toArray_toList]
      rw [e]
      simp [execOp, ho, Instr.makeFunc]
    · obtain ⟨u, hu, hru⟩ := h1.get hd
      rw [hv] at hu; cases hu; exact hru
def bnd (st : St) (o : Option Operand) (d n : Nat) : Prop :=
  match o with
  | none => n = d
  | some x => ∃ k z, ev st x = some (.one (.d (.int k z))) ∧ z = (n : Int)
theorem sliceBound_run {a : Act} {st : St} (hr : Rel c st a w σ φ) {o : Option Operand} {x : Operand} (ho : o = some x) {d n y : Nat} (hb : bnd st o d n) (hn : n ≤ y) (code : BoundsCode) :
    (Instr.sliceBound (a.eval x) y code).run P w = .ok n w := by
  subst ho
  obtain ⟨k, z, hx, rfl⟩ := hb
  have : (0 : Int) ≤ (n : Int) ∧ (n : Int) ≤ (y : Int) := ⟨by omega, by omega⟩
  simp [Instr.sliceBound, ev_int hr hx, asIntOf, this]
theorem sliceBounds_run {a : Act} {st : St} (hr : Rel c st a w σ φ) {lo hi : Option Operand} {l h len cap : Nat} (is : Bool) (hl : bnd st lo 0 l) (hh : bnd st hi len h) (h1 : l ≤ h) (h2 : h ≤ cap) :
    (Instr.sliceBounds is len cap (lo.map a.eval) (hi.map a.eval) none).run P w = .ok (l, h, cap) w := by
  unfold Instr.sliceBounds
  cases hi with
  | none =>
    simp only [bnd] at hh; subst hh
    cases lo with
    | none => simp only [bnd] at hl; subst hl; simp
    | some x => simp [sliceBound_run hr rfl hl h1]
  | some y =>
    have hy := fun code => sliceBound_run (P := P) hr rfl hh h2 code
    cases lo with
    | none => simp only [bnd] at hl; subst hl; simp [hy]
    | some x => simp [hy, sliceBound_run hr rfl hl h1]
theorem sl_cut {k b : Nat} {xs : List (List D)} {A : Option Addr} {cap l h : Nat} {u : Value} (hu : u = .slice A xs.length cap) (hr : Rep σ (.sl k b xs) u) (h1 : l ≤ h) (h2 : h ≤ xs.length) :
    Rep σ (.sl k b ((xs.take h).drop l)) (.slice (if cap = l then A else A.map (·.add (l * k))) (h - l) (cap - l)) := by
  subst hu
  generalize hm : xs.length = m at hr
  cases hr with
  | sl vs hc h48 hb hk hA hh =>
    have hlen : ((xs.take h).drop l).length = h - l := by simp; omega
    have e : (Value.slice (if cap = l then A else A.map (·.add (l * k))) (h - l) (cap - l)) = .slice (if cap = l then A else A.map (·.add (l * k))) ((xs.take h).drop l).length (cap - l) := by rw [hlen]
    rw [e]
    refine .sl (fun i j => vs (l + i) j) (by omega) (by omega) (by rw [hlen]; exact Nat.le_trans (Nat.mul_le_mul_right _ (by omega)) hb) (fun x hx => hk x (List.mem_of_mem_take (List.mem_of_mem_drop hx))) (fun h0 => ?_) (fun i j x d hx hd => ?_)
    · obtain ⟨B, o, cells, rfl, hσ, hcell⟩ := hA (by omega)
      refine ⟨B, o + l * k, cells, ?_, hσ, fun i j hi hj => ?_⟩
      · rw [if_neg (by omega)]
        simp [addr_add]
      · rw [← hcell (l + i) j (by omega) hj]
        congr 1
        rw [Nat.add_mul]; omega
    · have hx' : xs[l + i]? = some x := by
        rw [List.getElem?_drop, List.getElem?_take] at hx
        split at hx
        · exact hx
        · cases hx
      exact hh _ _ _ _ hx' hd
theorem okops_slice (hT : TabOk P T) {ops : Array Oper} {o : Oper} {rest : List Oper} {st : St} {K : St → Prop} {k b k' b' l h : Nat} {t e : TypeId} {z : List D} {x : Operand} {lo hi : Option Operand} {xs : List (List D)}
    (ho : o.op = .slice t x lo hi none) (hg : o.guard = none) (hd : dstOk c.n o.dst = true) (ht : sliceTy T t = some (e, k', b', z)) (hx : ev st x = some (.one (.d (.sl k b xs)))) (hk : Nat.beq k k' = true)
    (hl : bnd st lo 0 l) (hh : bnd st hi xs.length h) (h1 : l ≤ h) (h2 : h ≤ xs.length)
    (hok : OkOps P c ops rest ⟨putO o.dst (.one (.d (.sl k b ((xs.take h).drop l)))) st.fr, st.sto⟩ K) : OkOps P c ops (o :: rest) st K :=
  okops_run hg fun a w σ φ hr => by
    obtain ⟨i, zv, hu, hi', rfl, _⟩ := sliceTy_ok hT ht
    obtain rfl := Nat.eq_of_beq_eq_true hk
    have hrx := ev_rep hr hx
    replace hrx := RepC.d_inv hrx
    have hshape : ∃ A cap, a.eval x = .slice A xs.length cap ∧ xs.length ≤ cap := by
      generalize a.eval x = ux at hrx
      cases hrx with
      | sl vs hc _ _ _ _ _ => exact ⟨_, _, rfl, hc⟩
    obtain ⟨A, cap, hux, hcap⟩ := hshape
    refine ⟨_, w, _, σ, φ, ?_, hr.put (v := .one (.d (.sl i.size b ((xs.take h).drop l)))) hd (RepC.d (sl_cut hux hrx h1 h2)), hok⟩
    have hb := sliceBounds_run (P := P) hr true hl hh h1 (Nat.le_trans h2 hcap)
    simp only [execOp, ho, hux, Instr.sliceAt, Sem.run_bind, run_underlying hu, Result.andThen_ok, Instr.slice, Option.map_none, hb, run_sizeOf hi', Sem.run_pure]
theorem okops_sliceOwn (hT : TabOk P T) {ops : Array Oper} {o : Oper} {rest : List Oper} {st : St} {K : St → Prop} {k b k' b' id n h : Nat} {t e : TypeId} {z : List D} {x : Operand} {lo hi : Option Operand} {xs : List (List D)}
    (ho : o.op = .slice t x lo hi none) (hg : o.guard = none) (hd : dstOk c.n o.dst = true) (ht : sliceTy T t = some (e, k', b', z)) (hx : ev st x = some (.one (.own id n))) (hrow : look st.sto id = some (.row k b xs)) (hk : Nat.beq k k' = true)
    (hl : bnd st lo 0 0) (hh : bnd st hi n h) (h2 : h ≤ xs.length) (h3 : xs.length ≤ n ∨ h ≤ n)
    (hok : OkOps P c ops rest ⟨putO o.dst (.one (.own id h)) st.fr, st.sto⟩ K) : OkOps P c ops (o :: rest) st K :=
  okops_run hg fun a w σ φ hr => by
    obtain ⟨i, zv, hu, hi', rfl, _⟩ := sliceTy_ok hT ht
    obtain rfl := Nat.eq_of_beq_eq_true hk
    have hrx : RepC σ φ st.sto (.own id n) (a.eval x) := ev_rep hr hx
    generalize hux : a.eval x = ux at hrx
    have hobj := hr.inv.obj _ _ hrow
    cases hrx with
    | dead hxx _ => simp [acIn, hasK_of hrow] at hxx
    | ownNil hl' hp =>
      rw [hrow] at hl'; cases hl'
      rcases hobj with ⟨rfl, _⟩ | ⟨B, cap, _, _, _, h5, _⟩
      · have : h = 0 := by simpa using h2
        subst this
        refine ⟨_, w, _, σ, φ, ?_, hr.put (v := .one (.own id 0)) hd (RepC.ownNil hrow hp), hok⟩
        have hb := sliceBounds_run (P := P) hr true hl hh (Nat.le_refl _) (Nat.le_refl 0)
        simp only [execOp, ho, hux, Instr.sliceAt, Sem.run_bind, run_underlying hu, Result.andThen_ok, Instr.slice, Option.map_none, hb, run_sizeOf hi', Sem.run_pure]
        rfl
      · rw [hp] at h5; cases h5
    | own hl' hn hp =>
      rename_i B cap xs'
      rw [hrow] at hl'; cases hl'
      obtain ⟨arr, ty, us, hh', hsz, hle, _⟩ := hobj.row_cells hp
      refine ⟨.slice (some ⟨B, 0, none⟩) h cap, w, _, σ, φ, ?_, hr.put (v := .one (.own id h)) hd (RepC.own hrow h2 hp), hok⟩
      have hb := sliceBounds_run (P := P) hr true hl hh (Nat.zero_le _) (Nat.le_trans h2 hle)
      simp only [execOp, ho, hux, Instr.sliceAt, Sem.run_bind, run_underlying hu, Result.andThen_ok, Instr.slice, Option.map_none, hb, run_sizeOf hi', Sem.run_pure]
      simp [addr_add]
theorem okops_sliceSub (hT : TabOk P T) {ops : Array Oper} {o : Oper} {rest : List Oper} {st : St} {K : St → Prop} {k b k' b' id n l h : Nat} {t e : TypeId} {z : List D} {x : Operand} {lo hi : Option Operand} {xs : List (List D)}
    (ho : o.op = .slice t x lo hi none) (hg : o.guard = none) (hd : dstOk c.n o.dst = true) (ht : sliceTy T t = some (e, k', b', z)) (hx : ev st x = some (.one (.own id n))) (hrow : look st.sto id = some (.row k b xs)) (hk : Nat.beq k k' = true)
    (hl : bnd st lo 0 l) (hh : bnd st hi n h) (h1 : l ≤ h) (h2 : h ≤ xs.length)
    (hok : OkOps P c ops rest ⟨putO o.dst (.one (.sub id l (h - l))) st.fr, st.sto⟩ K) : OkOps P c ops (o :: rest) st K :=
  okops_run hg fun a w σ φ hr => by
    obtain ⟨i, zv, hu, hi', rfl, _⟩ := sliceTy_ok hT ht
    obtain rfl := Nat.eq_of_beq_eq_true hk
    have hrx : RepC σ φ st.sto (.own id n) (a.eval x) := ev_rep hr hx
    generalize hux : a.eval x = ux at hrx
    have hobj := hr.inv.obj _ _ hrow
    cases hrx with
    | dead hxx _ => simp [acIn, hasK_of hrow] at hxx
    | ownNil hl' hp =>
      rw [hrow] at hl'; cases hl'
      rcases hobj with ⟨rfl, _⟩ | ⟨B, cap, _, _, _, h5, _⟩
      · have : h = 0 := by simpa using h2
        subst this
        have : l = 0 := by omega
        subst this
        refine ⟨_, w, _, σ, φ, ?_, hr.put (v := .one (.sub id 0 (0 - 0))) hd (RepC.sub (A := none) (c := 0) hrow (by simp) (by simp) (by simp)), hok⟩
        have hb := sliceBounds_run (P := P) hr true hl hh (Nat.le_refl _) (Nat.le_refl 0)
        simp only [execOp, ho, hux, Instr.sliceAt, Sem.run_bind, run_underlying hu, Result.andThen_ok, Instr.slice, Option.map_none, hb, run_sizeOf hi', Sem.run_pure]
        rfl
      · rw [hp] at h5; cases h5
    | own hl' hn hp =>
      rename_i B cap xs'
      rw [hrow] at hl'; cases hl'
      obtain ⟨arr, ty, us, hh', hsz, hle, _⟩ := hobj.row_cells hp
      refine ⟨_, w, _, σ, φ, ?_, hr.put (v := .one (.sub id l (h - l))) hd (RepC.sub (A := if cap = l then some ⟨B, 0, none⟩ else (some ⟨B, 0, none⟩ : Option Addr).map (·.add (l * i.size))) (c := cap - l) hrow (by omega) (by omega) (fun h0 => ⟨B, cap, hp, ?_⟩)), hok⟩
      · have hb := sliceBounds_run (P := P) hr true hl hh h1 (Nat.le_trans h2 hle)
        simp only [execOp, ho, hux, Instr.sliceAt, Sem.run_bind, run_underlying hu, Result.andThen_ok, Instr.slice, Option.map_none, hb, run_sizeOf hi', Sem.run_pure]
      · rw [if_neg (by omega)]
        simp [addr_add]
theorem okops_sliceStr (hT : TabOk P T) {ops : Array Oper} {o : Oper} {rest : List Oper} {st : St} {K : St → Prop} {l h : Nat} {t : TypeId} {x : Operand} {lo hi : Option Operand} {s : List UInt8}
    (ho : o.op = .slice t x lo hi none) (hg : o.guard = none) (hd : dstOk c.n o.dst = true) (ht : isStrT T t = true) (hx : ev st x = some (.one (.d (.str s))))
    (hl : bnd st lo 0 l) (hh : bnd st hi s.length h) (h1 : l ≤ h) (h2 : h ≤ s.length)
    (hok : OkOps P c ops rest ⟨putO o.dst (.one (.d (.str ((s.drop l).take (h - l))))) st.fr, st.sto⟩ K) : OkOps P c ops (o :: rest) st K :=
  okops_run hg fun a w σ φ hr => by
    have hu := isStrT_ok hT ht
    obtain ⟨hux, h48⟩ := ev_str hr hx
    have e : (⟨((s.drop l).take (h - l)).toArray⟩ : ByteArray) = (⟨s.toArray⟩ : ByteArray).extract l h := by
      have := Lib.extract_data (⟨s.toArray⟩ : ByteArray) l h
      simp only at this
      rw [← this]
    refine ⟨.string ((⟨s.toArray⟩ : ByteArray).extract l h), w, _, σ, φ, ?_, hr.put (v := .one (.d (.str ((s.drop l).take (h - l))))) hd (RepC.d (by rw [← e]; exact .str (by simp; omega))), hok⟩
    have hsz : (⟨s.toArray⟩ : ByteArray).size = s.length := by simp [ByteArray.size]
    have hb := sliceBounds_run (P := P) (len := s.length) (cap := s.length) hr false hl hh h1 h2
    simp only [execOp, ho, hux, Instr.sliceAt, Sem.run_bind, run_underlying hu, Result.andThen_ok, Instr.slice, Option.map_none, Option.isSome_none, Bool.false_eq_true, if_false, hsz, hb, Sem.run_pure]
end Go.Abs
namespace Go.Abs
open Go
def litEq : D → Value → Bool
  | .int k n, .int k' n' => kEq k k' && decide (n = n')
  | .bool b, .bool b' => b == b'
  | .str [], .string s => s.data.toList.isEmpty
  | .nil, .slice none 0 0 => true
  | .raw .nilFunc, .nilFunc => true
  | .raw .nilIface, .nilIface => true
  | .raw (.map none), .map none => true
  | .raw (.pointer none), .pointer none => true
  | _, _ => false
theorem litEq_eq {d : D} {v : Value} (h : litEq d v = true) : v = litV d := by
  unfold litEq at h
  split at h
  · simp only [Bool.and_eq_true, decide_eq_true_eq] at h
    obtain ⟨h1, rfl⟩ := h
    obtain rfl := kEq_eq h1
    rfl
  · simp at h; subst h; rfl
  · rename_i s
    have : s.data.toList = [] := by simpa using h
    simp only [litV]
    congr 1
    obtain ⟨l⟩ := s
    obtain ⟨l⟩ := l
    simp at this
    subst this; rfl
  · rfl
  · rfl
  · rfl
  · rfl
  · rfl
  · simp at h
def litsEq : List D → List Value → Bool
  | [], [] => true
  | d :: ds, v :: vs => litEq d v && litsEq ds vs
  | _, _ => false
theorem litsEq_eq : ∀ {ds : List D} {vs : List Value}, litsEq ds vs = true → vs = ds.map litV
  | [], [], _ => rfl
  | d :: ds, v :: vs, h => by
    simp only [litsEq, Bool.and_eq_true] at h
    rw [litEq_eq h.1, litsEq_eq h.2]; rfl
  | [], _ :: _, h => by simp [litsEq] at h
  | _ :: _, [], h => by simp [litsEq] at h
def isAggV : Value → Bool
  | .agg _ => true
  | _ => false
def zeroB (d : TD) (z : Value) : Bool :=
  litsEq d.zero z.cells.toList && d.zero.all litB && Nat.beq d.zero.length d.size && (if d.kind.isAgg then isAggV z else z.oneCell)
def fldB (P : Program) : List (Nat × Nat × Bool) → List Field → Bool
  | [], [] => true
  | (o, s, g) :: r, f :: fs => Nat.beq f.offset o && (match P.info? f.type, P.underlying f.type with
      | some i, some u => Nat.beq i.size s && Nat.blt 0 s && (descAgg u == g)
      | _, _ => false) && fldB P r fs
  | _, _ => false
def kindB (P : Program) : TK → TypeDesc → Bool
  | .int k, .int k' => kEq k k'
  | .bool, .bool => true
  | .str, .string => true
  | .slice e, .slice e' => Nat.beq e e'
  | .struct fs, .struct fields => fldB P fs fields.toList
  | .array n e, .array n' e' => Nat.beq n n' && Nat.beq e e'
  | .ptr, .pointer _ => true
  | .map k e, .map k' e' => Nat.beq k k' && Nat.beq e e'
  | .func, .func _ _ _ => true
  | .other, u => !descAgg u
  | _, _ => false
def tdB (P : Program) (t : TypeId) (d : TD) : Bool :=
  match P.info? t, P.underlying t with
  | some i, some u => Nat.beq i.size d.size && Nat.beq i.bytes d.bytes && kindB P d.kind u && (match i.zero with | some z => zeroB d z | none => false)
  | _, _ => false
def tabB (P : Program) : Tab → Bool
  | [] => true
  | (t, d) :: r => tdB P t d && tabB P r
theorem fldB_ok {P : Program} : ∀ {fs : List (Nat × Nat × Bool)} {l : List Field}, fldB P fs l = true → l.length = fs.length ∧
    ∀ (j : Nat) (o s : Nat) (g : Bool), fs[j]? = some (o, s, g) → ∃ f, l[j]? = some f ∧ f.offset = o ∧ P.cellsOf f.type = s ∧ 0 < s ∧ (∃ i, P.info? f.type = some i) ∧ (∃ d', P.underlying f.type = some d' ∧ descAgg d' = g)
  | [], [], _ => ⟨rfl, by simp⟩
  | (o, s, g) :: r, f :: fs, h => by
    simp only [fldB, Bool.and_eq_true] at h
    obtain ⟨⟨h1, h2⟩, h3⟩ := h
    obtain ⟨h4, h5⟩ := fldB_ok h3
    refine ⟨by simp [h4], fun j o' s' g' hj => ?_⟩
    cases j with
    | zero =>
      simp at hj
      obtain ⟨rfl, rfl, rfl⟩ := hj
      split at h2
      · rename_i i u hi hu
        simp only [Bool.and_eq_true, beq_iff_eq] at h2
        refine ⟨f, rfl, Nat.eq_of_beq_eq_true h1, ?_, by have := h2.1.2; simpa [Nat.blt_eq] using this, ⟨i, hi⟩, u, hu, h2.2⟩
        simp only [Program.cellsOf, hi]
        exact Nat.eq_of_beq_eq_true h2.1.1
      · simp at h2
    | succ j =>
      obtain ⟨f', h6, h7⟩ := h5 j o' s' g' (by simpa using hj)
      exact ⟨f', by simpa using h6, h7⟩
  | [], _ :: _, h => by simp [fldB] at h
  | _ :: _, [], h => by simp [fldB] at h
theorem kindB_ok {P : Program} {k : TK} {u : TypeDesc} (h : kindB P k u = true) : kindOk P k u := by
  unfold kindB at h
  split at h
  · obtain rfl := kEq_eq h; rfl
  · rfl
  · rfl
  · obtain rfl := Nat.eq_of_beq_eq_true h; rfl
  · rename_i fs fields
    obtain ⟨h1, h2⟩ := fldB_ok h
    refine ⟨fields, rfl, by simpa using h1, fun j o s g hj => ?_⟩
    obtain ⟨f, h3, h4⟩ := h2 j o s g hj
    exact ⟨f, by simpa using h3, h4⟩
  · simp only [Bool.and_eq_true] at h
    obtain rfl := Nat.eq_of_beq_eq_true h.1
    obtain rfl := Nat.eq_of_beq_eq_true h.2; rfl
  · exact ⟨_, rfl⟩
  · simp only [Bool.and_eq_true] at h
    obtain rfl := Nat.eq_of_beq_eq_true h.1
    obtain rfl := Nat.eq_of_beq_eq_true h.2; rfl
  · exact ⟨_, _, _, rfl⟩
  · simpa [kindOk] using h
  · simp at h
theorem tabB_ok {P : Program} : ∀ {T : Tab}, tabB P T = true → TabOk P T
  | [], _, _, _, h => by simp [look] at h
  | (t, d) :: r, hb, t', d', h => by
    simp only [tabB, Bool.and_eq_true] at hb
    rcases look_cons h with ⟨rfl, rfl⟩ | ⟨_, h⟩
    · have h1 := hb.1
      unfold tdB at h1
      split at h1
      · rename_i i u hi hu
        simp only [Bool.and_eq_true] at h1
        obtain ⟨⟨⟨h2, h3⟩, h4⟩, h5⟩ := h1
        split at h5
        · rename_i z hz
          unfold zeroB at h5
          simp only [Bool.and_eq_true, List.all_eq_true] at h5
          obtain ⟨⟨⟨h6, h7⟩, h8⟩, h9⟩ := h5
          have hz' := litsEq_eq h6
          refine ⟨i, u, z, hi, hu, Nat.eq_of_beq_eq_true h2, Nat.eq_of_beq_eq_true h3, hz, kindB_ok h4, by rw [← hz', Array.toArray_toList], h7, Nat.eq_of_beq_eq_true h8, fun ha => ?_, fun ha => ?_⟩
          · rw [if_pos ha] at h9
            cases z <;> simp [isAggV] at h9
            simp only [Value.cells] at hz'
            rw [← hz', Array.toArray_toList]
          · rw [ha] at h9; simpa using h9
        · simp at h5
      · simp at h1
    · exact tabB_ok hb.2 t' d' h
end Go.Abs
namespace Go.Abs
open Go
structure Tr where
  v : AV
  wr : List (Nat × Option AObj)
  ri : List Nat
  new : List Nat
def appW : List (Nat × Option AObj) → Sto → Sto
  | [], s => s
  | (i, some o) :: r, s => setS i o (appW r s)
  | (i, none) :: r, s => del i (appW r s)
def lookW : List (Nat × Option AObj) → Nat → Option (Option AObj)
  | [], _ => none
  | (i, o) :: r, t => if i = t then some o else lookW r t
theorem look_appW : ∀ {wr : List (Nat × Option AObj)} {s : Sto} {t : Nat}, look (appW wr s) t = match lookW wr t with | some o => o | none => look s t
  | [], _, _ => rfl
  | (i, some o) :: r, s, t => by
    simp only [appW, lookW, look_setS]
    by_cases h : i = t
    · subst h; rw [look_self, if_pos rfl]
    · rw [look_ne (fun e => h e.symm), if_neg h]; exact look_appW
  | (i, none) :: r, s, t => by
    simp only [appW, lookW]
    by_cases h : i = t
    · subst h
      rw [if_pos rfl]
      cases hl : look (del i (appW r s)) i with
      | none => rfl
      | some e => exact absurd rfl (look_del hl).1
    · rw [if_neg h, look_del_ne (fun e => h e.symm)]; exact look_appW
def tmpsOf : List Operand → List Nat
  | [] => []
  | .tmp t :: r => t :: tmpsOf r
  | _ :: r => tmpsOf r
def slotsOf (o : Op) : List Nat := tmpsOf o.operands.toList
def gslot (ops : List Oper) (o : Oper) : List Nat :=
  match o.guard with
  | none => []
  | some (j, _) => match nth ops j with
    | some g => match g.dst with
      | some d => [d]
      | none => []
    | none => []
def Loc (P : Program) (c : Ctx) (o : Oper) (st : St) (tr : Tr) : Prop :=
  ∀ (st2 : St), (∀ t, t ∈ slotsOf o.op → look st2.fr t = look st.fr t) → (∀ i, i ∈ tr.ri → look st2.sto i = look st.sto i) →
    (∀ i, i ∈ tr.new → look st2.sto i = none ∧ frMen i st2.fr = false ∧ stoMen i st2.sto = false) →
    ∀ (ops : Array Oper) (rest : List Oper) (K : St → Prop), OkOps P c ops rest ⟨putO o.dst tr.v st2.fr, appW tr.wr st2.sto⟩ K → OkOps P c ops ({ o with guard := none } :: rest) st2 K
def guardOk (ops : Array Oper) (st : St) (o : Oper) (run : Bool) : Prop :=
  match o.guard with
  | none => run = true
  | some (j, want) => ∃ y, slotB st ops j = some y ∧ run = (y == some want)
def Tr.none : Tr := ⟨.tup [], [], [], []⟩
def ancOf (acc : List Nat) : List Edge → Nat
  | [] => 0
  | e :: r => if Region.binds .any e then 2 ^ e.on ||| acc.getD e.on 0 ||| ancOf acc r else ancOf acc r
def ancs : List Oper → List Nat → List Nat
  | [], acc => acc
  | o :: r, acc => ancs r (acc ++ [ancOf acc o.after.toList])
def edgesOk : Nat → List Oper → Bool
  | _, [] => true
  | i, o :: r => o.after.toList.all (fun e => !Region.binds .any e || Nat.blt e.on i) && edgesOk (i + 1) r
def keysOf : List (Nat × Option AObj) → List Nat
  | [] => []
  | (i, _) :: r => i :: keysOf r
def wrMen (id : Nat) : List (Nat × Option AObj) → Bool
  | [] => false
  | (_, some o) :: r => o.men id || wrMen id r
  | (_, none) :: r => wrMen id r
def memB (x : Nat) : List Nat → Bool
  | [] => false
  | y :: r => Nat.beq y x || memB x r
def meetB (l : List Nat) : List Nat → Bool
  | [] => false
  | y :: r => memB y l || meetB l r
def dstIn (d : Option Nat) (l : List Nat) : Bool := match d with | some t => memB t l | none => false
def dstEq (d e : Option Nat) : Bool := match d, e with | some a, some b => Nat.beq a b | _, _ => false
def ordB (anc : List Nat) (i j : Nat) : Bool := if i < j then (anc.getD j 0).testBit i else (anc.getD i 0).testBit j
def confB (ops : List Oper) (oi oj : Oper) (ti tj : Tr) : Bool :=
  dstIn oi.dst (slotsOf oj.op) || dstIn oi.dst (gslot ops oj) || dstEq oi.dst oj.dst || meetB (keysOf ti.wr) tj.ri || meetB (keysOf ti.wr) (keysOf tj.wr)
def newB (ti : Tr) (id : Nat) : Bool := memB id (keysOf ti.wr) || ti.v.men id || wrMen id ti.wr
def pairB (ops : List Oper) (anc : List Nat) (i j : Nat) (oi oj : Oper) (ti tj : Tr) : Bool :=
  (!confB ops oi oj ti tj || ordB anc i j) && tj.new.all (fun id => !newB ti id || (Nat.blt j i && (anc.getD i 0).testBit j))
def rowB (ops : List Oper) (anc : List Nat) (j : Nat) (oj : Oper) (tj : Tr) : Nat → List Oper → List Tr → Bool
  | i, oi :: r, ti :: ts => (Nat.beq i j || pairB ops anc i j oi oj ti tj) && rowB ops anc j oj tj (i + 1) r ts
  | _, _, _ => true
def allB (ops : List Oper) (trs : List Tr) (anc : List Nat) (st : St) : Nat → List Oper → List Tr → Bool
  | j, oj :: r, tj :: ts => rowB ops anc j oj tj 0 ops trs && tj.new.all (fun id => !hasK st.sto id && !frMen id st.fr && !stoMen id st.sto) && allB ops trs anc st (j + 1) r ts
  | _, _, _ => true
def drawChk (ops : List Oper) (st : St) (trs : List Tr) : Bool := edgesOk 0 ops && allB ops trs (ancs ops []) st 0 ops trs
def DRun (P : Program) (c : Ctx) (ops : Array Oper) (st0 : St) : List Oper → St → List Tr → (St → Prop) → Prop
  | [], st, acc, K => drawChk ops.toList st0 acc.reverse = true ∧ K st
  | o :: r, st, acc, K => ∃ (run : Bool) (tr : Tr), guardOk ops st o run ∧ (run = true → Loc P c o st tr) ∧ (run = false → tr = Tr.none) ∧
      (run = false → dstOk c.n o.dst = true) ∧ DRun P c ops st0 r ⟨putO o.dst tr.v st.fr, appW tr.wr st.sto⟩ (tr :: acc) K
def Cs (ops : List Oper) (trs : List Tr) (st0 : St) (L : Nat → Bool) : Nat → St
  | 0 => st0
  | i + 1 => match ops[i]?, trs[i]? with
    | some o, some t => if L i then ⟨putO o.dst t.v (Cs ops trs st0 L i).fr, appW t.wr (Cs ops trs st0 L i).sto⟩ else Cs ops trs st0 L i
    | _, _ => Cs ops trs st0 L i
section
variable {ops : List Oper} {trs : List Tr} {st0 : St}
theorem look_putO {dst : Option Nat} {v : AV} {fr : List (Nat × AV)} {t : Nat} : look (putO dst v fr) t = if dst = some t then some v else look fr t := by
  cases dst with
  | none => simp [putO]
  | some d =>
    simp only [putO, Option.some.injEq]
    by_cases h : d = t
    · subst h; rw [look_self, if_pos rfl]
    · rw [look_ne (fun e => h e.symm), if_neg h]
theorem Cs_fr_congr {L L' : Nat → Bool} {t : Nat} : ∀ {m : Nat}, (∀ i o, i < m → ops[i]? = some o → o.dst = some t → L i = L' i) → look (Cs ops trs st0 L m).fr t = look (Cs ops trs st0 L' m).fr t
  | 0, _ => rfl
  | m + 1, h => by
    have ih := Cs_fr_congr (m := m) fun i o hi => h i o (by omega)
    simp only [Cs]
    cases ho : ops[m]? with
    | none => exact ih
    | some o =>
      cases ht : trs[m]? with
      | none => exact ih
      | some tr =>
        simp only
        by_cases hd : o.dst = some t
        · have := h m o (by omega) ho hd
          cases hL : L m <;> rw [hL] at this <;> simp only [← this, Bool.false_eq_true, if_false, if_true]
          · exact ih
          · rw [look_putO, look_putO, if_pos hd, if_pos hd]
        · cases hL : L m <;> cases hL' : L' m <;> simp only [Bool.false_eq_true, if_false, if_true] <;> (try rw [look_putO, if_neg hd]) <;> (try rw [look_putO, if_neg hd]) <;> exact ih
theorem Cs_sto_congr {L L' : Nat → Bool} {id : Nat} : ∀ {m : Nat}, (∀ i t, i < m → trs[i]? = some t → lookW t.wr id ≠ none → L i = L' i) → look (Cs ops trs st0 L m).sto id = look (Cs ops trs st0 L' m).sto id
  | 0, _ => rfl
  | m + 1, h => by
    have ih := Cs_sto_congr (m := m) fun i t hi => h i t (by omega)
    simp only [Cs]
    cases ho : ops[m]? with
    | none => exact ih
    | some o =>
      cases ht : trs[m]? with
      | none => exact ih
      | some tr =>
        simp only
        cases hw : lookW tr.wr id with
        | some x =>
          have := h m tr (by omega) ht (by rw [hw]; simp)
          cases hL : L m <;> rw [hL] at this <;> simp only [← this, Bool.false_eq_true, if_false, if_true]
          · exact ih
          · rw [look_appW, look_appW, hw]
        | none =>
          cases hL : L m <;> cases hL' : L' m <;> simp only [Bool.false_eq_true, if_false, if_true] <;> (try rw [look_appW, hw]) <;> (try rw [look_appW, hw]) <;> exact ih
theorem Cs_fr_last {L : Nat → Bool} {j t : Nat} {oj : Oper} {tj : Tr} (hj : ops[j]? = some oj) (htj : trs[j]? = some tj) (hL : L j = true) (hd : oj.dst = some t) :
    ∀ {m : Nat}, j < m → (∀ i o, j < i → i < m → ops[i]? = some o → o.dst = some t → L i = false) → look (Cs ops trs st0 L m).fr t = some tj.v
  | 0, h, _ => by omega
  | m + 1, hjm, h => by
    simp only [Cs]
    by_cases e : j = m
    · subst e
      simp only [hj, htj, hL, if_true]
      rw [look_putO, if_pos hd]
    · have ih := Cs_fr_last hj htj hL hd (m := m) (by omega) fun i o h1 h2 => h i o h1 (by omega)
      cases ho : ops[m]? with
      | none => exact ih
      | some o =>
        cases ht : trs[m]? with
        | none => exact ih
        | some tr =>
          simp only
          by_cases hdm : o.dst = some t
          · have := h m o (by omega) (by omega) ho hdm
            simp only [this, Bool.false_eq_true, if_false]; exact ih
          · split
            · rw [look_putO, if_neg hdm]; exact ih
            · exact ih
theorem Cs_sto_last {L : Nat → Bool} {j id : Nat} {oj : Oper} {tj : Tr} {x : Option AObj} (hj : ops[j]? = some oj) (htj : trs[j]? = some tj) (hL : L j = true) (hd : lookW tj.wr id = some x) :
    ∀ {m : Nat}, j < m → (∀ i t, j < i → i < m → trs[i]? = some t → lookW t.wr id ≠ none → L i = false) → look (Cs ops trs st0 L m).sto id = x
  | 0, h, _ => by omega
  | m + 1, hjm, h => by
    simp only [Cs]
    by_cases e : j = m
    · subst e
      simp only [hj, htj, hL, if_true]
      rw [look_appW, hd]
    · have ih := Cs_sto_last hj htj hL hd (m := m) (by omega) fun i t h1 h2 => h i t h1 (by omega)
      cases ho : ops[m]? with
      | none => exact ih
      | some o =>
        cases ht : trs[m]? with
        | none => exact ih
        | some tr =>
          simp only
          cases hw : lookW tr.wr id with
          | some y =>
            have := h m tr (by omega) (by omega) ht (by rw [hw]; simp)
            simp only [this, Bool.false_eq_true, if_false]; exact ih
          | none =>
            split
            · rw [look_appW, hw]; exact ih
            · exact ih
end
end Go.Abs
namespace Go.Abs
open Go
variable {P : Program} {c : Ctx} {T : Tab} {σ : Sig} {φ : Pl} {w : World} {a : Act}
theorem RepC.cong {sto sto' : Sto} (he : ∀ i, look sto' i = look sto i) {x : AC} {v : Value} (h : RepC σ φ sto x v) : RepC σ φ sto' x v := by
  cases h with
  | d h => exact .d h
  | ownNil h hp => exact .ownNil ((he _).trans h) hp
  | own h hn hp => exact .own ((he _).trans h) hn hp
  | sub h hn hc hA => exact .sub ((he _).trans h) hn hc hA
  | ref h hp => exact .ref ((he _).trans h) hp
  | rref h hp => exact .rref ((he _).trans h) hp
  | yl h hp => exact .yl ((he _).trans h) hp
  | mapr h hp => exact .mapr ((he _).trans h) hp
  | bsl h hp => exact .bsl ((he _).trans h) hp
  | junk h => exact .junk h
  | dead hx h =>
    refine .dead ?_ h
    cases x <;> simp [acIn, hasK, he] at hx ⊢ <;> exact hx
theorem Ext.cong {sto sto' : Sto} (he : ∀ i, look sto' i = look sto i) : Ext (fun _ => False) φ φ sto sto' := by
  intro id _
  cases h : look sto id with
  | none => exact .inl ((he id).trans h)
  | some e => exact .inr ⟨e, rfl, rfl, e, (he id).trans h, compat.refl _⟩
theorem RepV.cong {sto sto' : Sto} (he : ∀ i, look sto' i = look sto i) {x : AV} {v : Value} (h : RepV σ φ sto x v) : RepV σ φ sto' x v :=
  h.ext (X := fun _ => False) (Sig.le_refl _) (Ext.cong he) (fun _ h => h.elim)
theorem Rel.cong {st st' : St} (h : Rel c st a w σ φ) (hf : ∀ t, look st'.fr t = look st.fr t) (hs : ∀ i, look st'.sto i = look st.sto i) : Rel c st' a w σ φ := by
  refine ⟨h.le, h.fresh, ⟨h.inv.sig, fun id e hi => ?_, fun i i' e e' p p' hi hi' => h.inv.inj _ _ _ _ _ _ ((hs _).symm.trans hi) ((hs _).symm.trans hi')⟩, fun id e p hi => h.mine _ _ _ ((hs _).symm.trans hi), fun s v hv => ?_, h.defers, h.size, h.fra, h.pin⟩
  · exact (h.inv.obj _ _ ((hs _).symm.trans hi)).ext (X := fun _ => False) (Sig.le_refl _) (Ext.cong hs) (fun _ h => h.elim) rfl fun _ _ _ => ⟨rfl, rfl⟩
  · obtain ⟨u, h1, h2⟩ := h.slot s v ((hf s).symm.trans hv)
    exact ⟨u, h1, h2.cong hs⟩
theorem Rel.drew {st : St} (h : Rel c st a w σ φ) (d : Nat) (hd : w.drawn ≤ d) : Rel c st a { w with drawn := d } σ φ :=
  ⟨h.le, h.fresh, ⟨h.inv.sig, fun id e hi => by have := h.inv.obj id e hi; cases e <;> exact this, h.inv.inj⟩, h.mine, h.slot, h.defers, h.size, ⟨h.fra.os, h.fra.tape, h.fra.output, h.fra.size, Nat.le_trans h.fra.drawn hd, h.fra.block⟩, h.pin⟩
theorem ancOf_bit {acc : List Nat} {k : Nat} : ∀ {l : List Edge}, (ancOf acc l).testBit k = true → ∃ e ∈ l, Region.binds .any e = true ∧ (e.on = k ∨ (acc.getD e.on 0).testBit k = true)
  | [], h => by simp [ancOf] at h
  | e :: r, h => by
    simp only [ancOf] at h
    cases hb : Region.binds .any e with
    | false =>
      rw [hb] at h
      obtain ⟨e', h1, h2⟩ := ancOf_bit (l := r) (by simpa using h)
      exact ⟨e', List.mem_cons_of_mem _ h1, h2⟩
    | true =>
      rw [hb, if_pos rfl] at h
      simp only [Nat.testBit_or, Bool.or_eq_true] at h
      rcases h with (h | h) | h
      · rw [Nat.testBit_two_pow] at h
        exact ⟨e, List.mem_cons_self, hb, .inl (by simpa using h)⟩
      · exact ⟨e, List.mem_cons_self, hb, .inr h⟩
      · obtain ⟨e', h1, h2⟩ := ancOf_bit h
        exact ⟨e', List.mem_cons_of_mem _ h1, h2⟩
theorem edgesOk_get : ∀ {ops : List Oper} {i j : Nat} {o : Oper}, edgesOk i ops = true → ops[j]? = some o → ∀ e ∈ o.after.toList, Region.binds .any e = true → e.on < i + j
  | [], _, _, _, _, h => by simp at h
  | x :: r, i, 0, o, hk, h => fun e he hb => by
    simp at h; subst h
    simp only [edgesOk, Bool.and_eq_true, List.all_eq_true] at hk
    have := hk.1 e he
    simpa [hb] using this
  | x :: r, i, j + 1, o, hk, h => fun e he hb => by
    simp only [edgesOk, Bool.and_eq_true] at hk
    have := edgesOk_get (j := j) hk.2 (by simpa using h) e he hb
    omega
def Closed (ops : List Oper) (L : Nat → Bool) : Prop :=
  ∀ i o, ops[i]? = some o → L i = true → ∀ e ∈ o.after.toList, Region.binds .any e = true → L e.on = true
theorem ancs_closed {ops0 : List Oper} {L : Nat → Bool} (hL : Closed ops0 L) (hE : edgesOk 0 ops0 = true) : ∀ {ops : List Oper} {acc : List Nat}, (∀ j, ops[j]? = ops0[acc.length + j]?) →
    (∀ i k, i < acc.length → (acc.getD i 0).testBit k = true → L i = true → L k = true) → ∀ i k, i < acc.length + ops.length → ((ancs ops acc).getD i 0).testBit k = true → L i = true → L k = true
  | [], acc, _, h => by simpa [ancs] using h
  | o :: r, acc, hops, h => by
    intro i k hi hb hLi
    simp only [ancs] at hb
    refine ancs_closed hL hE (ops := r) (acc := acc ++ [ancOf acc o.after.toList]) (fun j => ?_) (fun i k hi hb hLi => ?_) i k (by simp at hi ⊢; omega) hb hLi
    · have := hops (j + 1)
      simp only [List.length_append, List.length_singleton]
      rw [show acc.length + 1 + j = acc.length + (j + 1) by omega, ← this]; simp
    · simp only [List.length_append, List.length_singleton] at hi
      rcases Nat.lt_or_ge i acc.length with hlt | hge
      · rw [List.getD_eq_getElem?_getD, List.getElem?_append_left hlt, ← List.getD_eq_getElem?_getD] at hb
        exact h i k hlt hb hLi
      · obtain rfl : i = acc.length := by omega
        rw [List.getD_eq_getElem?_getD, List.getElem?_append_right (Nat.le_refl _)] at hb
        simp only [Nat.sub_self, List.getElem?_cons_zero, Option.getD_some] at hb
        obtain ⟨e, he, hbd, hor⟩ := ancOf_bit hb
        have ho : ops0[acc.length]? = some o := by have := hops 0; simpa using this.symm
        have hLe := hL _ _ ho hLi e he hbd
        rcases hor with rfl | hor
        · exact hLe
        · have hlt := edgesOk_get hE ho e he hbd
          exact h _ _ (by omega) hor hLe
theorem memB_iff {x : Nat} : ∀ {l : List Nat}, memB x l = true ↔ x ∈ l
  | [] => by simp [memB]
  | y :: r => by
    simp only [memB, Bool.or_eq_true, List.mem_cons, memB_iff (l := r)]
    constructor
    · rintro (h | h)
      · exact .inl (Nat.eq_of_beq_eq_true h).symm
      · exact .inr h
    · rintro (h | h)
      · exact .inl (by subst h; exact Nat.beq_refl _)
      · exact .inr h
theorem meetB_of {x : Nat} : ∀ {k l : List Nat}, x ∈ k → x ∈ l → meetB l k = true
  | [], _, h, _ => by simp at h
  | y :: r, l, h, hl => by
    simp only [meetB, Bool.or_eq_true]
    rcases List.mem_cons.1 h with rfl | h
    · exact .inl (memB_iff.2 hl)
    · exact .inr (meetB_of h hl)
theorem lookW_key {t : Nat} : ∀ {wr : List (Nat × Option AObj)}, lookW wr t ≠ none → t ∈ keysOf wr
  | [], h => by simp [lookW] at h
  | (i, o) :: r, h => by
    simp only [lookW] at h
    simp only [keysOf, List.mem_cons]
    by_cases e : i = t
    · exact .inl e.symm
    · rw [if_neg e] at h; exact .inr (lookW_key h)
theorem rowB_get {ops : List Oper} {anc : List Nat} {j : Nat} {oj : Oper} {tj : Tr} : ∀ {l : List Oper} {ts : List Tr} {i n : Nat} {oi : Oper} {ti : Tr}, rowB ops anc j oj tj i l ts = true → l[n]? = some oi → ts[n]? = some ti → i + n ≠ j → pairB ops anc (i + n) j oi oj ti tj = true
  | [], _, _, _, _, _, _, h, _, _ => by simp at h
  | _ :: _, [], _, _, _, _, _, _, h, _ => by simp at h
  | o :: r, t :: ts, i, 0, oi, ti, hk, h1, h2, hne => by
    simp at h1 h2; subst h1; subst h2
    simp only [rowB, Bool.and_eq_true, Bool.or_eq_true] at hk
    rcases hk.1 with h | h
    · exact absurd (Nat.eq_of_beq_eq_true h) hne
    · exact h
  | o :: r, t :: ts, i, n + 1, oi, ti, hk, h1, h2, hne => by
    simp only [rowB, Bool.and_eq_true] at hk
    have := rowB_get (n := n) hk.2 (by simpa using h1) (by simpa using h2) (by omega)
    rwa [show i + 1 + n = i + (n + 1) by omega] at this
theorem allB_get {ops : List Oper} {trs : List Tr} {anc : List Nat} {st : St} : ∀ {l : List Oper} {ts : List Tr} {j n : Nat} {oj : Oper} {tj : Tr}, allB ops trs anc st j l ts = true → l[n]? = some oj → ts[n]? = some tj →
    rowB ops anc (j + n) oj tj 0 ops trs = true ∧ ∀ id ∈ tj.new, look st.sto id = none ∧ frMen id st.fr = false ∧ stoMen id st.sto = false
  | [], _, _, _, _, _, _, h, _ => by simp at h
  | _ :: _, [], _, _, _, _, _, _, h => by simp at h
  | o :: r, t :: ts, j, 0, oj, tj, hk, h1, h2 => by
    simp at h1 h2; subst h1; subst h2
    simp only [allB, Bool.and_eq_true, List.all_eq_true, Bool.not_eq_true'] at hk
    refine ⟨hk.1.1, fun id hid => ?_⟩
    obtain ⟨⟨h1, h2⟩, h3⟩ := hk.1.2 id hid
    refine ⟨?_, h2, h3⟩
    cases hl : look st.sto id with
    | none => rfl
    | some e => simp [hasK, hl] at h1
  | o :: r, t :: ts, j, n + 1, oj, tj, hk, h1, h2 => by
    simp only [allB, Bool.and_eq_true] at hk
    have := allB_get (n := n) hk.2 (by simpa using h1) (by simpa using h2)
    rwa [show j + 1 + n = j + (n + 1) by omega] at this
structure DrawGood (ops : List Oper) (trs : List Tr) (st0 : St) : Prop where
  len : trs.length = ops.length
  edges : edgesOk 0 ops = true
  /-- in conflict: one of the two waits for the other -/
  ord : ∀ (L : Nat → Bool) (i j : Nat) (oi oj : Oper) (ti tj : Tr), Closed ops L → ops[i]? = some oi → ops[j]? = some oj → trs[i]? = some ti → trs[j]? = some tj → i ≠ j → confB ops oi oj ti tj = true → (i < j → L j = true → L i = true) ∧ (j < i → L i = true → L j = true)
  new : ∀ (L : Nat → Bool) (i j : Nat) (oi oj : Oper) (ti tj : Tr) (id : Nat), Closed ops L → ops[i]? = some oi → ops[j]? = some oj → trs[i]? = some ti → trs[j]? = some tj → i ≠ j → id ∈ tj.new → newB ti id = true → j < i ∧ (L i = true → L j = true)
  fresh : ∀ (j : Nat) (tj : Tr), trs[j]? = some tj → ∀ id ∈ tj.new, look st0.sto id = none ∧ frMen id st0.fr = false ∧ stoMen id st0.sto = false
theorem drawChk_good {ops : List Oper} {trs : List Tr} {st0 : St} (hlen : trs.length = ops.length) (h : drawChk ops st0 trs = true) : DrawGood ops trs st0 := by
  simp only [drawChk, Bool.and_eq_true] at h
  obtain ⟨hE, hA⟩ := h
  have hcl : ∀ {L : Nat → Bool}, Closed ops L → ∀ i k, i < ops.length → ((ancs ops []).getD i 0).testBit k = true → L i = true → L k = true := fun {L} hL i k hi =>
    ancs_closed hL hE (ops := ops) (acc := []) (by simp) (by simp) i k (by simpa using hi)
  have hlt : ∀ {i : Nat} {o : Oper}, ops[i]? = some o → i < ops.length := fun h => (List.getElem?_eq_some_iff.1 h).1
  refine ⟨hlen, hE, fun L i j oi oj ti tj hL hi hj hti htj hne hc => ?_, fun L i j oi oj ti tj id hL hi hj hti htj hne hid hn => ?_, fun j tj htj id hid => ?_⟩
  · have hr := rowB_get (n := i) (allB_get (n := j) hA hj htj).1 hi hti (by omega)
    simp only [Nat.zero_add, pairB, Bool.and_eq_true, hc, Bool.not_true, Bool.false_or, ordB] at hr
    refine ⟨fun hlt' hLj => ?_, fun hlt' hLi => ?_⟩
    · rw [if_pos hlt'] at hr; exact hcl hL _ _ (hlt hj) hr.1 hLj
    · rw [if_neg (by omega)] at hr; exact hcl hL _ _ (hlt hi) hr.1 hLi
  · have hr := rowB_get (n := i) (allB_get (n := j) hA hj htj).1 hi hti (by omega)
    simp only [Nat.zero_add, pairB, Bool.and_eq_true, List.all_eq_true] at hr
    have := hr.2 id hid
    simp only [hn, Bool.not_true, Bool.false_or, Bool.and_eq_true, Nat.blt_eq] at this
    exact ⟨this.1, fun hLi => hcl hL _ _ (hlt hi) this.2 hLi⟩
  · have hj : j < ops.length := hlen ▸ (List.getElem?_eq_some_iff.1 htj).1
    exact (allB_get (n := j) hA (List.getElem?_eq_getElem hj) htj).2 id hid
end Go.Abs
namespace Go.Abs
open Go
variable {P : Program} {c : Ctx} {T : Tab} {ops : List Oper} {trs : List Tr} {st0 : St}
theorem stoMen_setS {id i : Nat} {o : AObj} (ho : o.men id = false) : ∀ {s : Sto}, stoMen id s = false → stoMen id (setS i o s) = false
  | [], _ => by simp [setS, stoMen, ho]
  | p :: r, h => by
    simp only [stoMen, Bool.or_eq_false_iff] at h
    simp only [setS]
    cases Nat.beq p.1 i <;> simp only [cond_true, cond_false, stoMen, Bool.or_eq_false_iff]
    · exact ⟨h.1, stoMen_setS ho h.2⟩
    · exact ⟨ho, h.2⟩
theorem stoMen_del {id i : Nat} : ∀ {s : Sto}, stoMen id s = false → stoMen id (del i s) = false
  | [], _ => rfl
  | p :: r, h => by
    simp only [stoMen, Bool.or_eq_false_iff] at h
    simp only [del]
    cases Nat.beq p.1 i <;> simp only [cond_true, cond_false, stoMen, Bool.or_eq_false_iff]
    · exact ⟨h.1, stoMen_del h.2⟩
    · exact stoMen_del h.2
theorem stoMen_appW {id : Nat} : ∀ {wr : List (Nat × Option AObj)} {s : Sto}, wrMen id wr = false → stoMen id s = false → stoMen id (appW wr s) = false
  | [], _, _, h => h
  | (i, some o) :: r, s, hw, h => by
    simp only [wrMen, Bool.or_eq_false_iff] at hw
    exact stoMen_setS hw.1 (stoMen_appW hw.2 h)
  | (i, none) :: r, s, hw, h => stoMen_del (stoMen_appW (by simpa [wrMen] using hw) h)
theorem frMen_putO {id : Nat} {d : Option Nat} {v : AV} {fr : List (Nat × AV)} (hv : v.men id = false) (h : frMen id fr = false) : frMen id (putO d v fr) = false := by
  cases d with
  | none => exact h
  | some d => simp [putO, frMen, hv, h]
theorem Cs_clean {L : Nat → Bool} {id : Nat} (h0 : look st0.sto id = none ∧ frMen id st0.fr = false ∧ stoMen id st0.sto = false) : ∀ {m : Nat}, (∀ i t, i < m → trs[i]? = some t → L i = true → newB t id = false) →
    look (Cs ops trs st0 L m).sto id = none ∧ frMen id (Cs ops trs st0 L m).fr = false ∧ stoMen id (Cs ops trs st0 L m).sto = false
  | 0, _ => h0
  | m + 1, h => by
    have ih := Cs_clean h0 (m := m) fun i t hi => h i t (by omega)
    simp only [Cs]
    cases ho : ops[m]? with
    | none => exact ih
    | some o =>
      cases ht : trs[m]? with
      | none => exact ih
      | some tr =>
        simp only
        cases hL : L m with
        | false => exact ih
        | true =>
          have := h m tr (by omega) ht hL
          simp only [newB, Bool.or_eq_false_iff] at this
          simp only [if_true]
          refine ⟨?_, frMen_putO this.1.2 ih.2.1, stoMen_appW this.2 ih.2.2⟩
          rw [look_appW]
          cases hw : lookW tr.wr id with
          | none => exact ih.1
          | some x =>
            have h1 := memB_iff.2 (lookW_key (t := id) (wr := tr.wr) (by rw [hw]; simp))
            rw [h1] at this; exact absurd this.1.1 (by simp)
theorem Cs_short {L : Nat → Bool} {j : Nat} : ∀ {m : Nat}, j ≤ m → (∀ i, j ≤ i → i < m → L i = false) → Cs ops trs st0 L m = Cs ops trs st0 L j
  | 0, h, _ => by obtain rfl : j = 0 := by omega
                  rfl
  | m + 1, h, hL => by
    rcases Nat.lt_or_ge j (m + 1) with hlt | hge
    · have ih := Cs_short (L := L) (m := m) (j := j) (by omega) fun i h1 h2 => hL i h1 (by omega)
      have := hL m (by omega) (by omega)
      simp only [Cs, this, Bool.false_eq_true, if_false]
      rw [← ih]
      split <;> rfl
    · obtain rfl : j = m + 1 := by omega
      rfl
def Sj (ops : List Oper) (trs : List Tr) (st0 : St) (j : Nat) : St := Cs ops trs st0 (fun _ => true) j
theorem Sj_fr {j m t : Nat} (h : j ≤ m) : look (Sj ops trs st0 j).fr t = look (Cs ops trs st0 (fun i => decide (i < j)) m).fr t := by
  rw [Cs_short (j := j) h (fun i h1 _ => by simp; omega)]
  exact Cs_fr_congr fun i o hi _ _ => by simp [hi]
theorem Sj_sto {j m t : Nat} (h : j ≤ m) : look (Sj ops trs st0 j).sto t = look (Cs ops trs st0 (fun i => decide (i < j)) m).sto t := by
  rw [Cs_short (j := j) h (fun i h1 _ => by simp; omega)]
  exact Cs_sto_congr fun i o hi _ _ => by simp [hi]
def Fact (P : Program) (c : Ctx) (opsA : Array Oper) (o : Oper) (tr : Tr) (st : St) : Prop :=
  ∃ run : Bool, guardOk opsA st o run ∧ (run = true → Loc P c o st tr) ∧ (run = false → tr = Tr.none ∧ dstOk c.n o.dst = true)
def withJ (L : Nat → Bool) (j : Nat) : Nat → Bool := fun i => if i = j then true else L i
section
variable {opsA : Array Oper} {L : Nat → Bool} {j : Nat} {oj : Oper} {tj : Tr}
theorem closed_with (hL : Closed ops L) (hj : ops[j]? = some oj) (hanc : ∀ e ∈ oj.after.toList, Region.binds .any e = true → L e.on = true) : Closed ops (withJ L j) := by
  intro i o hi hLi e he hb
  unfold withJ at hLi ⊢
  split
  · rfl
  · by_cases hij : i = j
    · subst hij; rw [hj] at hi; cases hi; exact hanc e he hb
    · rw [if_neg hij] at hLi; exact hL i o hi hLi e he hb
theorem guardOk_cong {st st' : St} {o : Oper} {run : Bool} (h : ∀ t, t ∈ gslot opsA.toList o → look st'.fr t = look st.fr t) (hg : guardOk opsA st o run) : guardOk opsA st' o run := by
  unfold guardOk at hg ⊢
  unfold gslot at h
  cases hgd : o.guard with
  | none => simpa [hgd] using hg
  | some gw =>
    obtain ⟨g, want⟩ := gw
    simp only [hgd] at hg h ⊢
    obtain ⟨b, hb, hr⟩ := hg
    refine ⟨b, ?_, hr⟩
    unfold slotB at hb ⊢
    cases hn : nth opsA.toList g with
    | none => simp [hn] at hb
    | some og =>
      simp only [hn] at hb h ⊢
      cases hd : og.dst with
      | none => simp [hd] at hb
      | some d =>
        simp only [hd] at hb h ⊢
        rw [h d (by simp)]
        exact hb
theorem draw_run (G : DrawGood opsA.toList trs st0) (hL : Closed opsA.toList L) (hj : opsA.toList[j]? = some oj) (htj : trs[j]? = some tj) (hnL : L j = false)
    (hanc : ∀ e ∈ oj.after.toList, Region.binds .any e = true → L e.on = true) (hF : Fact P c opsA oj tj (Sj opsA.toList trs st0 j)) {m : Nat} (hm : opsA.toList.length = m) {a : Act} {w : World} {σ : Sig} {φ : Pl}
    (hr : Rel c (Cs opsA.toList trs st0 L m) a w σ φ) {Q : Exit → Act → World → Prop} {K : Act → World → Prop}
    (hK : ∀ a' w' σ' φ', Rel c (Cs opsA.toList trs st0 (withJ L j) m) a' w' σ' φ' → K a' w') : wpOpIn (fnc c) 0 P opsA Q j K a w := by
  have hjm : j < m := by have := (List.getElem?_eq_some_iff.1 hj).1; omega
  have hL' := closed_with hL hj hanc
  have hlk : ∀ i, i ≠ j → withJ L j i = L i := fun i hi => by simp [withJ, hi]
  have htr : ∀ i, i < m → ∃ t, trs[i]? = some t := fun i hi => ⟨_, List.getElem?_eq_getElem (by rw [G.len]; omega)⟩
  have hop : ∀ {i : Nat} {t : Tr}, trs[i]? = some t → ∃ o, opsA.toList[i]? = some o := fun {i t} h => ⟨_, List.getElem?_eq_getElem (by have := (List.getElem?_eq_some_iff.1 h).1; rw [G.len] at this; omega)⟩
  have hconf : ∀ {i : Nat} {oi : Oper} {ti : Tr}, opsA.toList[i]? = some oi → trs[i]? = some ti → i ≠ j → confB opsA.toList oi oj ti tj = true → L i = decide (i < j) := by
    intro i oi ti hi hti hij hc
    rcases Nat.lt_or_ge i j with h | h
    · have := (G.ord _ i j oi oj ti tj hL' hi hj hti htj hij hc).1 h (by simp [withJ])
      rw [hlk i hij] at this
      simp [this, h]
    · have := (G.ord _ i j oi oj ti tj hL hi hj hti htj hij hc).2 (by omega)
      have hn : ¬ i < j := by omega
      cases hb : L i with
      | false => simp [hn]
      | true => rw [this hb] at hnL; cases hnL
  have hconfS : ∀ {i : Nat} {oi : Oper} {ti : Tr}, j < i → opsA.toList[i]? = some oi → trs[i]? = some ti → confB opsA.toList oi oj ti tj = true → withJ L j i = false := by
    intro i oi ti hji hi hti hc
    rw [hlk i (by omega), hconf hi hti (by omega) hc]
    simp; omega
  -- what it looks at
  have hsl : ∀ t, (dstIn (some t) (slotsOf oj.op) = true ∨ dstIn (some t) (gslot opsA.toList oj) = true) → look (Cs opsA.toList trs st0 L m).fr t = look (Sj opsA.toList trs st0 j).fr t := by
    intro t ht
    rw [Sj_fr (Nat.le_of_lt hjm)]
    refine Cs_fr_congr fun i o hi ho hd => ?_
    by_cases hij : i = j
    · subst hij; simp [hnL]
    · obtain ⟨ti, hti⟩ := htr i hi
      refine hconf ho hti hij ?_
      simp only [confB, hd, Bool.or_eq_true]
      rcases ht with h | h
      · exact .inl (.inl (.inl (.inl h)))
      · exact .inl (.inl (.inl (.inr h)))
  have hri : ∀ i, i ∈ tj.ri → look (Cs opsA.toList trs st0 L m).sto i = look (Sj opsA.toList trs st0 j).sto i := by
    intro id hid
    rw [Sj_sto (Nat.le_of_lt hjm)]
    refine Cs_sto_congr fun i t hi ht hw => ?_
    by_cases hij : i = j
    · subst hij; simp [hnL]
    · obtain ⟨o, ho⟩ := hop ht
      refine hconf ho ht hij ?_
      simp only [confB, Bool.or_eq_true]
      exact .inl (.inr (meetB_of hid (lookW_key hw)))
  have hnew : ∀ id, id ∈ tj.new → look (Cs opsA.toList trs st0 L m).sto id = none ∧ frMen id (Cs opsA.toList trs st0 L m).fr = false ∧ stoMen id (Cs opsA.toList trs st0 L m).sto = false := by
    intro id hid
    refine Cs_clean (G.fresh j tj htj id hid) fun i t hi ht hLi => ?_
    cases hb : newB t id with
    | false => rfl
    | true =>
      obtain ⟨o, ho⟩ := hop ht
      have hij : i ≠ j := by rintro rfl; rw [hnL] at hLi; cases hLi
      have := (G.new L i j o oj t tj id hL ho hj ht htj hij hid hb).2 hLi
      rw [this] at hnL; cases hnL
  have hg := fun t (ht : t ∈ gslot opsA.toList oj) => hsl t (.inr (by simpa [dstIn] using memB_iff.2 ht))
  -- what it leaves
  have hafter : ∀ a' w' σ' φ', Rel c ⟨putO oj.dst tj.v (Cs opsA.toList trs st0 L m).fr, appW tj.wr (Cs opsA.toList trs st0 L m).sto⟩ a' w' σ' φ' → K a' w' := by
    intro a' w' σ' φ' h
    refine hK a' w' σ' φ' (h.cong (fun t => ?_) (fun id => ?_))
    · rw [look_putO]
      by_cases hd : oj.dst = some t
      · rw [if_pos hd]
        refine Cs_fr_last hj htj (by simp [withJ]) hd hjm fun i o hji hi ho hdo => ?_
        obtain ⟨ti, hti⟩ := htr i hi
        refine hconfS hji ho hti ?_
        simp [confB, hdo, hd, dstEq]
      · rw [if_neg hd]
        refine Cs_fr_congr fun i o hi ho hdo => ?_
        by_cases hij : i = j
        · subst hij; rw [hj] at ho; cases ho; exact absurd hdo hd
        · exact hlk i hij
    · rw [look_appW]
      cases hw : lookW tj.wr id with
      | some x =>
        refine Cs_sto_last hj htj (by simp [withJ]) hw hjm fun i t hji hi ht hwi => ?_
        obtain ⟨o, ho⟩ := hop ht
        refine hconfS hji ho ht ?_
        simp only [confB, Bool.or_eq_true]
        exact .inr (meetB_of (lookW_key (t := id) (wr := tj.wr) (by rw [hw]; simp)) (lookW_key hwi))
      | none =>
        refine Cs_sto_congr fun i t hi ht hwi => ?_
        by_cases hij : i = j
        · subst hij; rw [htj] at ht; cases ht; exact absurd hw hwi
        · exact hlk i hij
  obtain ⟨run, hgd, h1, h2⟩ := hF
  have hgd' := guardOk_cong hg hgd
  have hjA : opsA[j]? = some oj := by rw [← Array.getElem?_toList]; exact hj
  unfold wpOpIn
  simp only [hjA]
  have hwant : Region.wanted oj (yielded opsA a.tmps) = run := by
    unfold guardOk at hgd'
    unfold Region.wanted
    cases hgo : oj.guard with
    | none => simp only [hgo] at hgd' ⊢; exact hgd'.symm
    | some gw =>
      obtain ⟨g, want⟩ := gw
      simp only [hgo] at hgd' ⊢
      obtain ⟨b, hb, hrb⟩ := hgd'
      rw [slotB_ok hr hb, hrb]
  rw [hwant]
  cases run with
  | false =>
    obtain ⟨rfl, hd⟩ := h2 rfl
    simp only [Bool.false_eq_true, if_false]
    exact ⟨fun f _ => fnc_fn c f, hafter _ _ _ _ (hr.put hd ⟨[], rfl, trivial⟩)⟩
  | true =>
    simp only [if_true]
    have hloc := h1 rfl (Cs opsA.toList trs st0 L m) (fun t ht => hsl t (.inl (by simpa [dstIn] using memB_iff.2 ht))) hri hnew opsA [] (fun st => st = ⟨putO oj.dst tj.v (Cs opsA.toList trs st0 L m).fr, appW tj.wr (Cs opsA.toList trs st0 L m).sto⟩) (okops_nil rfl)
    have hwp := hloc a w σ φ (fun e a w => match e with | .normal => K a w | _ => False) hr (fun a' w' σ' φ' st' hst hr' => by subst hst; exact hafter _ _ _ _ hr')
    unfold wpListIn at hwp
    have hw1 : Region.wanted { oj with guard := none } (yielded opsA a.tmps) = true := rfl
    rw [if_pos hw1] at hwp
    have hout : ¬ LetsOut (fun (e : Exit) (a : Act) (w : World) => match e with | .normal => K a w | _ => False) := by rintro ⟨_, _, hf⟩; exact hf
    have e1 : ({ oj with guard := none } : Oper).semAt (fnc c).round a.eval = oj.semAt (fnc c).round a.eval := by
      obtain ⟨dst, op, type, pos, after, guard⟩ := oj
      cases op <;> rfl
    obtain ⟨_, hwp⟩ := hwp
    refine ⟨fun f _ => fnc_fn c f, ?_⟩
    rw [e1] at hwp
    generalize (oj.semAt (fnc c).round a.eval).run P w = r at *
    cases r with
    | ok n w' =>
      cases n <;> simp only [Oper.uponIn, wpListIn] at hwp ⊢
      · exact hwp
      · exact hwp
      · exact ⟨hwp.1, hwp.2.mono fun e w'' he => by
          cases e with
          | returned v => exact he
          | panicked _ => exact he.elim
          | outgrown => exact absurd he hout⟩
      all_goals first
        | exact hwp
        | exact ⟨hwp.1, hwp.2.mono fun e w'' he => by
            cases e with
            | returned v => exact he
            | panicked _ => exact he.elim
            | outgrown => exact absurd he hout⟩
    | halt x w' => cases x <;> simp only [Oper.uponIn] at hwp ⊢
end
end Go.Abs
namespace Go.Abs
open Go
variable {P : Program} {c : Ctx} {st0 : St}
def runT : List Oper → List Tr → St → St
  | o :: r, t :: ts, st => runT r ts ⟨putO o.dst t.v st.fr, appW t.wr st.sto⟩
  | _, _, st => st
theorem drun_facts {opsA : Array Oper} {K : St → Prop} : ∀ {l : List Oper} {st : St} {acc : List Tr}, DRun P c opsA st0 l st acc K →
    ∃ ts : List Tr, ts.length = l.length ∧ drawChk opsA.toList st0 (acc.reverse ++ ts) = true ∧ K (runT l ts st) ∧ ∀ (j : Nat) (o : Oper) (t : Tr), l[j]? = some o → ts[j]? = some t → Fact P c opsA o t (runT (l.take j) (ts.take j) st)
  | [], st, acc, h => ⟨[], rfl, by simpa [DRun] using h.1, h.2, fun j o t h => by simp at h⟩
  | o :: r, st, acc, ⟨run, tr, hg, h1, h2, h3, h⟩ => by
    obtain ⟨ts, hl, hc, hk, hf⟩ := drun_facts h
    refine ⟨tr :: ts, by simp [hl], by simpa using hc, hk, fun j o' t ho ht => ?_⟩
    cases j with
    | zero =>
      simp at ho ht; subst ho; subst ht
      exact ⟨run, hg, h1, fun hr => ⟨h2 hr, h3 hr⟩⟩
    | succ j => exact hf j o' t (by simpa using ho) (by simpa using ht)
theorem runT_snoc : ∀ {l : List Oper} {ts : List Tr} {st : St} {o : Oper} {t : Tr}, l.length = ts.length → runT (l ++ [o]) (ts ++ [t]) st = ⟨putO o.dst t.v (runT l ts st).fr, appW t.wr (runT l ts st).sto⟩
  | [], [], _, _, _, _ => rfl
  | _ :: l, _ :: ts, _, _, _, h => by
    simp only [List.cons_append, runT]
    exact runT_snoc (by simpa using h)
  | [], _ :: _, _, _, _, h => by simp at h
  | _ :: _, [], _, _, _, h => by simp at h
theorem Sj_runT {ops : List Oper} {trs : List Tr} (hl : trs.length = ops.length) : ∀ {j : Nat}, j ≤ ops.length → Sj ops trs st0 j = runT (ops.take j) (trs.take j) st0
  | 0, _ => by simp [Sj, Cs, runT]
  | j + 1, h => by
    have ih := Sj_runT hl (j := j) (by omega)
    unfold Sj at ih ⊢
    have h1 : ops[j]? = some ops[j] := List.getElem?_eq_getElem (by omega)
    have h2 : trs[j]? = some trs[j] := List.getElem?_eq_getElem (by omega)
    simp only [Cs, h1, h2, if_true]
    rw [ih, List.take_add_one, List.take_add_one, h1, h2]
    simp only [Option.toList_some]
    rw [runT_snoc (by simp; omega)]
def Lof (listed : Array Bool) : Nat → Bool := fun i => listed.getD i false
def unl (listed : Array Bool) : Nat := listed.toList.countP (fun b => !b)
theorem ready_spec {ops : Array Oper} {listed : Array Bool} {i : Nat} (h : i ∈ Region.ready .any ops listed) :
    ∃ o, ops[i]? = some o ∧ listed.getD i true = false ∧ ∀ e ∈ o.after.toList, Region.binds .any e = true → Lof listed e.on = true := by
  unfold Region.ready at h
  simp only [List.mem_filter, List.mem_range, Bool.and_eq_true, Bool.not_eq_true'] at h
  obtain ⟨h1, h2, h3⟩ := h
  have ho : ops[i]? = some ops[i] := Array.getElem?_eq_getElem h1
  refine ⟨_, ho, h2, fun e he hb => ?_⟩
  rw [ho] at h3
  simp only [Option.map_some, Option.getD_some, Array.all_eq_true'] at h3
  have := h3 e (by simpa using he)
  simpa [hb, Lof] using this
theorem ready_of {ops : Array Oper} {listed : Array Bool} {i : Nat} {o : Oper} (ho : ops[i]? = some o) (hn : listed.getD i true = false) (he : ∀ e ∈ o.after.toList, Region.binds .any e = true → Lof listed e.on = true) : i ∈ Region.ready .any ops listed := by
  unfold Region.ready
  simp only [List.mem_filter, List.mem_range, Bool.and_eq_true, Bool.not_eq_true']
  refine ⟨(Array.getElem?_eq_some_iff.1 ho).1, hn, ?_⟩
  rw [ho]
  simp only [Option.map_some, Option.getD_some, Array.all_eq_true']
  intro e hm
  cases hb : Region.binds .any e with
  | false => rfl
  | true => simpa [Lof] using he e (by simpa using hm) hb
theorem countP_set : ∀ {l : List Bool} {i : Nat}, l[i]? = some false → (l.set i true).countP (fun b => !b) + 1 = l.countP (fun b => !b)
  | [], _, h => by simp at h
  | b :: r, 0, h => by simp at h; subst h; simp
  | b :: r, i + 1, h => by
    have := countP_set (l := r) (i := i) (by simpa using h)
    simp only [List.set_cons_succ, List.countP_cons]
    omega
theorem any_order {opsA : Array Oper} {trs : List Tr} (G : DrawGood opsA.toList trs st0) (hF : ∀ (j : Nat) (o : Oper) (t : Tr), opsA.toList[j]? = some o → trs[j]? = some t → Fact P c opsA o t (Sj opsA.toList trs st0 j))
    {Q : Exit → Act → World → Prop} (hQ : ∀ a w σ φ, Rel c (Sj opsA.toList trs st0 opsA.toList.length) a w σ φ → Q .normal a w) :
    ∀ (fuel : Nat) (listed : Array Bool) (a : Act) (w : World) (σ : Sig) (φ : Pl), listed.size = opsA.size → Closed opsA.toList (Lof listed) → unl listed ≤ fuel → Rel c (Cs opsA.toList trs st0 (Lof listed) opsA.toList.length) a w σ φ →
      wpAnyIn (fnc c) 0 P .any opsA Q fuel listed a w := by
  -- where nothing is left
  have hend : ∀ (listed : Array Bool) (a : Act) (w : World) (σ : Sig) (φ : Pl), (∀ i, i < opsA.size → Lof listed i = true) → Rel c (Cs opsA.toList trs st0 (Lof listed) opsA.toList.length) a w σ φ → Q .normal a w := by
    intro listed a w σ φ hall hr
    refine hQ a w σ φ (hr.cong (fun t => ?_) (fun id => ?_))
    · exact Cs_fr_congr fun i o hi _ _ => (hall i (by simpa using hi)).symm
    · exact Cs_sto_congr fun i t hi _ _ => (hall i (by simpa using hi)).symm
  have hnone : ∀ (listed : Array Bool), listed.size = opsA.size → Region.ready .any opsA listed = [] → ∀ i, i < opsA.size → Lof listed i = true := by
    intro listed hsz hrd i
    induction i using Nat.strongRecOn with
    | ind i ih =>
      intro hi
      cases hb : Lof listed i with
      | true => rfl
      | false =>
        have ho : opsA[i]? = some opsA[i] := Array.getElem?_eq_getElem hi
        have hn : listed.getD i true = false := by
          unfold Lof at hb
          rw [Array.getD_eq_getD_getElem?, Array.getElem?_eq_getElem (by omega)] at hb ⊢
          exact hb
        have := ready_of (ops := opsA) (listed := listed) ho hn fun e he hbd => by
          have hlt := edgesOk_get G.edges (j := i) (by rw [Array.getElem?_toList]; exact ho) e he hbd
          exact ih e.on (by omega) (by omega)
        rw [hrd] at this; simp at this
  intro fuel
  induction fuel with
  | zero =>
    intro listed a w σ φ hsz hcl hu hr
    have hall : ∀ i, i < opsA.size → Lof listed i = true := by
      intro i hi
      have h0 : unl listed = 0 := by omega
      unfold unl at h0
      rw [List.countP_eq_zero] at h0
      have := h0 listed[i] (by simp)
      unfold Lof
      rw [Array.getD_eq_getD_getElem?, Array.getElem?_eq_getElem (by omega)]
      simpa using this
    refine ⟨?_, hend listed a w σ φ hall hr⟩
    cases hrd : Region.ready .any opsA listed with
    | nil => rfl
    | cons i r =>
      obtain ⟨o, ho, hn, _⟩ := ready_spec (ops := opsA) (listed := listed) (i := i) (by rw [hrd]; simp)
      have hi := (Array.getElem?_eq_some_iff.1 ho).1
      have := hall i hi
      unfold Lof at this
      rw [Array.getD_eq_getD_getElem?, Array.getElem?_eq_getElem (by omega)] at this hn
      simp at this hn; rw [this] at hn; cases hn
  | succ fuel ih =>
    intro listed a w σ φ hsz hcl hu hr
    refine ⟨fun hrd => hend listed a w σ φ (hnone listed hsz hrd) hr, fun j hj => ?_⟩
    obtain ⟨oj, ho, hn, hanc⟩ := ready_spec hj
    have hjs := (Array.getElem?_eq_some_iff.1 ho).1
    have ho' : opsA.toList[j]? = some oj := by rw [Array.getElem?_toList]; exact ho
    have hjt : j < trs.length := by rw [G.len]; simpa using hjs
    have htj : trs[j]? = some trs[j] := List.getElem?_eq_getElem hjt
    have hnf : listed[j]? = some false := by
      rw [Array.getD_eq_getD_getElem?, Array.getElem?_eq_getElem (by omega)] at hn
      rw [Array.getElem?_eq_getElem (by omega)]
      simpa using hn
    have hnL : Lof listed j = false := by unfold Lof; rw [Array.getD_eq_getD_getElem?, hnf]; rfl
    have hset : Lof (listed.setIfInBounds j true) = withJ (Lof listed) j := by
      funext i
      unfold Lof withJ
      rw [Array.getD_eq_getD_getElem?, Array.getElem?_setIfInBounds]
      by_cases hij : j = i
      · subst hij; simp [show j < listed.size by omega]
      · rw [if_neg hij, if_neg (fun e => hij e.symm)]; simp only [Array.getD_eq_getD_getElem?]
    refine draw_run G hcl ho' htj hnL hanc (hF j oj _ ho' htj) rfl hr fun a' w' σ' φ' hr' => ?_
    refine ih _ a' w' σ' φ' (by simpa using hsz) (by rw [hset]; exact closed_with hcl ho' hanc) ?_ (by rw [hset]; exact hr')
    have := countP_set (l := listed.toList) (i := j) (by rw [Array.getElem?_toList]; exact hnf)
    unfold unl at hu ⊢
    rw [Array.toList_setIfInBounds]
    omega
theorem ok_regionD {id : Nat} {ops : Array Oper} {st : St} {Q : Exit → St → Prop} (hm : P.follows .mixedOrders = true) (h : DRun P c ops st ops.toList st [] (Q .normal)) : OkC P c (.region id ops true) st Q := by
  intro a w σ φ hr
  obtain ⟨trs, hl, hc, hk, hf⟩ := drun_facts h
  have G := drawChk_good hl (by simpa using hc)
  refine wpIn_region_any hm ?_
  refine any_order (c := c) G ?f1 (fun a' w' σ' φ' hr' => ⟨runT ops.toList trs st, σ', φ', hk, .inl ?f2⟩) ops.size _ a _ σ φ (by simp) ?f3 ?f4 ?f5
  case f1 =>
    intro j o t ho ht
    rw [Sj_runT hl (Nat.le_of_lt (List.getElem?_eq_some_iff.1 ho).1)]
    exact hf j o t ho ht
  case f2 =>
    rw [Sj_runT hl (Nat.le_refl _)] at hr'
    rwa [List.take_length, ← hl, List.take_length] at hr'
  case f3 =>
    intro i o _ hLi
    unfold Lof at hLi
    rw [Array.getD_eq_getD_getElem?, Array.getElem?_replicate] at hLi
    split at hLi <;> simp at hLi
  case f4 => unfold unl; exact Nat.le_trans List.countP_le_length (by simp)
  case f5 =>
    rw [Cs_short (j := 0) (Nat.zero_le _) (fun i _ _ => by unfold Lof; rw [Array.getD_eq_getD_getElem?, Array.getElem?_replicate]; split <;> rfl)]
    exact hr.drew _ (by simp)
end Go.Abs
namespace Go.Abs
open Go
variable {P : Program} {c : Ctx} {T : Tab} {σ : Sig} {φ : Pl} {w : World}
def idsC : AC → List Nat
  | .own i _ | .sub i _ _ | .ref i _ | .rref i _ _ | .yl i | .mapr i | .bsl i _ _ => [i]
  | _ => []
def idsCs : List AC → List Nat
  | [] => []
  | c :: r => idsC c ++ idsCs r
def idsTs : List (Bool × List AC) → List Nat
  | [] => []
  | t :: r => idsCs t.2 ++ idsTs r
def idsV : AV → List Nat
  | .one c => idsC c
  | .agg cs => idsCs cs
  | .tup ts => idsTs ts
  | .any => []
def evIds (st : St) (x : Operand) : List Nat := match ev st x with | some v => idsV v | none => []
def opIds (st : St) : List Operand → List Nat
  | [] => []
  | x :: r => evIds st x ++ opIds st r
theorem opIds_mem {st : St} {x : Operand} {v : AV} (hv : ev st x = some v) {i : Nat} (hi : i ∈ idsV v) : ∀ {l : List Operand}, x ∈ l → i ∈ opIds st l
  | [], h => by simp at h
  | y :: r, h => by
    simp only [opIds, List.mem_append]
    rcases List.mem_cons.1 h with rfl | h
    · exact .inl (by simp [evIds, hv, hi])
    · exact .inr (opIds_mem hv hi h)
theorem tmpsOf_mem {t : Nat} : ∀ {l : List Operand}, Operand.tmp t ∈ l → t ∈ tmpsOf l
  | [], h => by simp at h
  | x :: r, h => by
    rcases List.mem_cons.1 h with rfl | h
    · simp [tmpsOf]
    · have := tmpsOf_mem h
      cases x <;> simp [tmpsOf, this]
theorem ev_cong {st st2 : St} {op : Op} (hs : ∀ t, t ∈ slotsOf op → look st2.fr t = look st.fr t) {x : Operand} (hx : x ∈ op.operands.toList) : ev st2 x = ev st x := by
  cases x with
  | tmp t => exact hs t (tmpsOf_mem hx)
  | _ => rfl
section
variable {s s2 : Sto}
theorem hasK_cong {i : Nat} (h : look s2 i = look s i) : hasK s2 i = hasK s i := by simp [hasK, h]
theorem addF_cong {off : Nat} {v : AV} (h : ∀ i, i ∈ idsV v → look s2 i = look s i) : addF s2 off v = addF s off v := by
  unfold addF
  split <;> first | rfl | (rw [hasK_cong (h _ (by simp [idsV, idsC]))])
theorem loadF_cong {g : Bool} {n : Nat} {v : AV} (h : ∀ i, i ∈ idsV v → look s2 i = look s i) : loadF s2 g n v = loadF s g n v := by
  unfold loadF
  split <;> first | rfl | (rw [h _ (by simp [idsV, idsC])])
theorem lenF_cong {k : TK} {v : AV} (h : ∀ i, i ∈ idsV v → look s2 i = look s i) : lenF s2 k v = lenF s k v := by
  unfold lenF
  split <;> first | rfl | (rw [hasK_cong (h _ (by simp [idsV, idsC]))])
end
theorem buildF_cong {st st2 : St} {t : TypeId} : ∀ {parts : List (Nat × Operand)} {acc : List AC}, (∀ p ∈ parts, ev st2 p.2 = ev st p.2) → buildF T st2 t acc parts = buildF T st t acc parts
  | [], _, _ => rfl
  | (i, x) :: r, acc, h => by
    have h1 := h (i, x) List.mem_cons_self
    have ih : ∀ {acc}, buildF T st2 t acc r = buildF T st t acc r := fun {acc} => buildF_cong fun p hp => h p (List.mem_cons_of_mem _ hp)
    simp only at h1
    simp only [buildF, h1, ih]
theorem valF_cong {st st2 : St} {op : Op} (hs : ∀ t, t ∈ slotsOf op → look st2.fr t = look st.fr t) (hi : ∀ i, i ∈ opIds st op.operands.toList → look st2.sto i = look st.sto i) : valF T st2 op = valF T st op := by
  have he : ∀ {x : Operand}, x ∈ op.operands.toList → ev st2 x = ev st x := fun hx => ev_cong hs hx
  have hid : ∀ {x : Operand} {v : AV}, x ∈ op.operands.toList → ev st x = some v → ∀ i, i ∈ idsV v → look st2.sto i = look st.sto i := fun hx hv i h => hi i (opIds_mem hv h hx)
  cases op with
  | move x => exact he (by simp [Op.operands])
  | assign x => exact he (by simp [Op.operands])
  | binOp op t x y ty => simp only [valF]; rw [he (x := x) (by simp [Op.operands]), he (x := y) (by simp [Op.operands])]
  | unOp op t x => simp only [valF]; rw [he (x := x) (by simp [Op.operands])]
  | fieldAddr s x f =>
    simp only [valF]; rw [he (x := x) (by simp [Op.operands])]
    cases hv : ev st x with
    | none => cases tyFld T s f <;> rfl
    | some v =>
      cases tyFld T s f with
      | none => rfl
      | some p => simp only; exact addF_cong (hid (x := x) (by simp [Op.operands]) hv)
  | field s x f => simp only [valF]; rw [he (x := x) (by simp [Op.operands])]
  | load t x =>
    simp only [valF]; rw [he (x := x) (by simp [Op.operands])]
    cases hv : ev st x with
    | none => cases tySz T t <;> rfl
    | some v =>
      cases tySz T t with
      | none => rfl
      | some p => simp only; exact loadF_cong (hid (x := x) (by simp [Op.operands]) hv)
  | extract x i => simp only [valF]; rw [he (x := x) (by simp [Op.operands])]
  | convert a b x => simp only [valF]; rw [he (x := x) (by simp [Op.operands])]
  | build t parts =>
    simp only [valF]
    have : ∀ {acc}, buildF T st2 t acc parts.toList = buildF T st t acc parts.toList := fun {acc} => buildF_cong fun p hp => he (by
      simp only [Op.operands, Array.toList_map, List.mem_map]
      exact ⟨p, by simpa using hp, rfl⟩)
    simp only [this]
  | nilCheck x =>
    simp only [valF]; rw [he (x := x) (by simp [Op.operands])]
    cases hv : ev st x with
    | none => rfl
    | some v =>
      have h := hid (x := x) (by simp [Op.operands]) hv
      split <;> first | rfl | (rename_i heq; cases heq; rw [hasK_cong (h _ (by simp [idsV, idsC]))])
  | call cl =>
    obtain ⟨callee, args, ats⟩ := cl
    cases callee with
    | builtin b =>
      simp only [valF]
      have hargs : ∀ x ∈ args.toList, x ∈ (Op.call { callee := .builtin b, args := args, argTypes := ats }).operands.toList := by
        intro x hx
        simp [Op.operands, Call.operands]
        simpa using hx
      have hmap : args.toList.map (ev st2) = args.toList.map (ev st) := List.map_congr_left fun x hx => he (hargs x hx)
      rw [hmap]
      unfold builtinF
      split
      · rename_i t v _ heq
        have hlen : ∃ x, args.toList = [x] ∧ ev st x = some v := by
          cases hl : args.toList with
          | nil => rw [hl] at heq; simp at heq
          | cons x r =>
            rw [hl] at heq
            simp only [List.map_cons, List.cons.injEq, List.map_eq_nil_iff] at heq
            exact ⟨x, by rw [heq.2], heq.1⟩
        obtain ⟨x, hx, hv⟩ := hlen
        have h := hid (x := x) (hargs x (by rw [hx]; simp)) hv
        cases look T t with
        | none => rfl
        | some td => simp only; rw [lenF_cong h]
      · rfl
      · rfl
      · rfl
    | _ => rfl
  | _ => rfl
end Go.Abs
namespace Go.Abs
open Go
variable {P : Program} {c : Ctx} {T : Tab} {σ : Sig} {φ : Pl} {w : World}
structure Ef where
  v : AV
  wr : List (Nat × Option AObj)
  new : List Nat
def idxV (T : Tab) (sto : Sto) (t : TypeId) : Option AV → Option AV → Option AV
  | some (.one (.d (.int _ n))), some (.one (.d (.sl k _ xs))) => match sliceTy T t with
    | some (_, k', _, _) => bif Nat.beq k k' && decide (0 ≤ n) then (match nth xs n.toNat with | some el => some (.one (.d (.ptr el))) | none => none) else none
    | none => none
  | some (.one (.d (.int _ n))), some (.one (.own id m)) => match sliceTy T t, look sto id with
    | some (_, k', _, _), some (.row k _ _) => bif Nat.beq k k' && decide (0 ≤ n) && decide (n < m) then some (.one (.rref id n.toNat 0)) else none
    | _, _ => none
  | some (.one (.d (.int _ n))), some (.one (.sub id lo m)) => match sliceTy T t, look sto id with
    | some (_, k', _, _), some (.row k _ _) => bif Nat.beq k k' && decide (0 ≤ n) && decide (n < m) then some (.one (.rref id (lo + n.toNat) 0)) else none
    | _, _ => none
  | some (.one (.d (.int _ n))), some v => match arrTy T t with
    | some (m, s) => bif decide (0 ≤ n) && decide (n < m) then addF sto (n.toNat * s) v else none
    | none => none
  | _, _ => none
def strIdxV (T : Tab) (t : TypeId) : Option AV → Option AV → Option AV
  | some (.one (.d (.int _ n))), some (.one (.d (.str s))) => bif isStrT T t && decide (0 ≤ n) then (match nth s n.toNat with | some b => some (.one (.d (.int .u8 (b.toNat : Int)))) | none => none) else none
  | _, _ => none
def loadRV (T : Tab) (sto : Sto) (t : TypeId) : Option AV → Option AV
  | some (.one (.rref id i off)) => match tySz T t, look sto id with
    | some (g, s), some (.row _ _ xs) => (match nth xs i with | some el => takeAs g s ((el.drop off).map .d) | none => none)
    | _, _ => none
  | _ => none
def storeV (T : Tab) (sto : Sto) (t : TypeId) : Option AV → Option AV → Option (Nat × AObj)
  | some (.one (.ref id off)), some v => match tySz T t, look sto id, cellsOf v with
    | some (_, s), some (.box cells), some cs => bif Nat.beq cs.length s then (match splice off cs cells with | some cells' => some (id, .box cells') | none => none) else none
    | _, _, _ => none
  | some (.one (.rref id j off)), some v => match tySz T t, look sto id, cellsOf v with
    | some (_, s), some (.row k b xs), some cs => bif Nat.beq cs.length s then (match allD cs, nth xs j with
      | some ds, some el => (match splice off ds el with | some el' => some (id, .row k b (xs.set j el')) | none => none)
      | _, _ => none) else none
    | _, _, _ => none
  | _, _ => none
def bndF (st : St) (o : Option Operand) (d : Nat) : Option Nat :=
  match o with
  | none => some d
  | some x => match ev st x with
    | some (.one (.d (.int _ z))) => bif decide (0 ≤ z) then some z.toNat else none
    | _ => none
def sliceV (T : Tab) (sto : Sto) (t : TypeId) (lo hi : Nat → Option Nat) : Option AV → Option AV
  | some (.one (.d (.sl k b xs))) => match sliceTy T t, lo 0, hi xs.length with
    | some (_, k', _, _), some l, some h => bif Nat.beq k k' && (Nat.ble l h && Nat.ble h xs.length) then some (.one (.d (.sl k b ((xs.take h).drop l)))) else none
    | _, _, _ => none
  | some (.one (.d (.str s))) => match lo 0, hi s.length with
    | some l, some h => bif isStrT T t && (Nat.ble l h && Nat.ble h s.length) then some (.one (.d (.str ((s.drop l).take (h - l))))) else none
    | _, _ => none
  | some (.one (.own id n)) => match sliceTy T t, look sto id, lo 0, hi n with
    | some (_, k', _, _), some (.row k _ xs), some l, some h => bif Nat.beq k k' && (Nat.ble l h && Nat.ble h xs.length) then
        (bif Nat.beq l 0 && (Nat.ble xs.length n || Nat.ble h n) then some (.one (.own id h)) else some (.one (.sub id l (h - l)))) else none
    | _, _, _, _ => none
  | _ => none
def newF (T : Tab) (st : St) (id : Nat) : Op → Option (AV × AObj)
  | .alloc t => match look T t with | some td => some (.one (.ref id 0), .box (td.zero.map .d)) | none => none
  | .box _ x => match ev st x with | some v => (match cellsOf v with | some cs => bif acsMen id cs then none else some (.one (.ref id 0), .box cs) | none => none) | none => none
  | .buildSlice t n parts => match sliceTy T t with
    | some (_, k, b, _) => (match partsD st k 0 parts.toList with
      | some xs => bif Nat.beq parts.toList.length n && (Nat.ble (n * k) 1000000 && Nat.ble (n * b) 1000000 && Nat.ble n 1000000) then some (.one (.own id n), .row k b xs) else none
      | none => none)
    | none => none
  | .makeSlice t x y => match sliceTy T t, ev st x, ev st y with
    | some (_, k, b, z), some (.one (.d (.int .i64 n))), some (.one (.d (.int .i64 m))) =>
      bif decide (0 ≤ n) && decide (n = m) && (Nat.ble (n.toNat * b) 1000000 && Nat.ble n.toNat 1000000) then some (.one (.own id n.toNat), .row k b (List.replicate n.toNat z)) else none
    | _, _, _ => none
  | _ => none
def appV (T : Tab) (st : St) (id : Nat) (t t2 : TypeId) : Option AV → Option AV → Option Ef
  | some (.one (.own i n)), some v => match sliceTy T t, sliceTy T t2, look st.sto i with
    | some (_, k, b, _), some _, some (.row k' b' xs) => (match srcOf st k v with
      | some ys => bif Nat.beq k k' && Nat.beq b b' && (Nat.ble (n + ys.length) 1000000000 && Nat.ble ((n + ys.length) * b) 100000000000) then
        some ⟨.one (.own id (n + ys.length)), [(id, some (.row k b (xs.take n ++ ys))), (i, none)], [id]⟩ else none
      | none => none)
    | _, _, _ => none
  | some (.one (.d .nil)), some v => match sliceTy T t, sliceTy T t2 with
    | some (_, k, b, _), some _ => (match srcOf st k v with
      | some ys => bif Nat.ble ys.length 1000000000 && Nat.ble (ys.length * b) 100000000000 then some ⟨.one (.own id ys.length), [(id, some (.row k b ys))], [id, id + 1]⟩ else none
      | none => none)
    | _, _ => none
  | _, _ => none
def otherE (T : Tab) (st : St) (id : Nat) : Op → Option Ef
  | .pick x y z => match ev st x with
    | some (.one (.d (.bool b))) => (match ev st (if b then y else z) with | some v => some ⟨v, [], []⟩ | none => none)
    | _ => none
  | .indexAddr t x y => match idxV T st.sto t (ev st y) (ev st x) with | some v => some ⟨v, [], []⟩ | none => none
  | .index t x y => match strIdxV T t (ev st y) (ev st x) with | some v => some ⟨v, [], []⟩ | none => none
  | .load t x => match loadRV T st.sto t (ev st x) with | some v => some ⟨v, [], []⟩ | none => none
  | .slice t x lo hi none => match sliceV T st.sto t (bndF st lo) (bndF st hi) (ev st x) with | some v => some ⟨v, [], []⟩ | none => none
  | .call { callee := .builtin .append, args := ⟨[x, y]⟩, argTypes := ⟨[t, t2]⟩ } => appV T st id t t2 (ev st x) (ev st y)
  | .makeFunc (.func f) ⟨[]⟩ caps => match evL st caps.toList with
    | some avs => (match oneDs avs with | some ds => some ⟨.one (.d (.fn f ds)), [], []⟩ | none => none)
    | none => none
  | _ => none
def hasD : Option Nat → Bool
  | some _ => true
  | none => false
def stepE (T : Tab) (st : St) (o : Oper) (id : Nat) : Option Ef :=
  match valF T st o.op with
  | some v => some ⟨v, [], []⟩
  | none => match otherE T st id o.op with
    | some e => some e
    | none => bif hasD o.dst then (match newF T st id o.op with | some (v, ob) => some ⟨v, [(id, some ob)], [id]⟩ | none => none)
      else match o.op with
        | .store t x y => match storeV T st.sto t (ev st x) (ev st y) with | some (i, ob) => some ⟨.any, [(i, some ob)], []⟩ | none => none
        | _ => none
def Ef.tr (e : Ef) (ri : List Nat) : Tr := ⟨e.v, e.wr, ri, e.new⟩
def FreshL (st : St) (l : List Nat) : Prop := ∀ i, i ∈ l → look st.sto i = none ∧ frMen i st.fr = false ∧ stoMen i st.sto = false
theorem bndF_ok {st : St} {o : Option Operand} {d l : Nat} (h : bndF st o d = some l) : bnd st o d l := by
  unfold bndF at h
  split at h
  · simp at h; exact h.symm
  · rename_i x
    split at h <;> (try (simp at h; done))
    rename_i k z hz
    cases hb : decide (0 ≤ z) <;> simp [hb] at h
    simp at hb
    exact ⟨k, z, hz, by omega⟩
theorem setS_cons {P : Program} {ops : Array Oper} {rest : List Oper} {fr : List (Nat × AV)} {sto : Sto} {id : Nat} {o : AObj} {K : St → Prop} (h : OkOps P c ops rest ⟨fr, setS id o sto⟩ K) : OkOps P c ops rest ⟨fr, (id, o) :: sto⟩ K :=
  okops_imp (imp_sto fun _ => look_setS) h
def StepOk (P : Program) (c : Ctx) (o : Oper) (st : St) (e : Ef) : Prop :=
  ∀ (ops : Array Oper) (rest : List Oper) (K : St → Prop), OkOps P c ops rest ⟨putO o.dst e.v st.fr, appW e.wr st.sto⟩ K → OkOps P c ops ({ o with guard := none } :: rest) st K
theorem idxV_ok (hT : TabOk P T) {o : Oper} {st : St} {t : TypeId} {x y : Operand} {v : AV} (ho : o.op = .indexAddr t x y) (hd : dstOk c.n o.dst = true) (h : idxV T st.sto t (ev st y) (ev st x) = some v) : StepOk P c o st ⟨v, [], []⟩ := by
  intro ops rest K hk
  unfold idxV at h
  split at h
  · rename_i ik n k b xs hy hx
    split at h <;> (try (simp at h; done))
    rename_i e k' b' z ht
    cases hb : Nat.beq k k' && decide (0 ≤ n) <;> simp only [hb, cond_true, cond_false, reduceCtorEq] at h
    simp only [Bool.and_eq_true, decide_eq_true_eq] at hb
    split at h <;> simp at h
    rename_i el hel
    subst h
    exact okops_idx hT (o := { o with guard := none }) ho rfl hd ht hx hb.1 hy hb.2 (by rw [← nth_eq]; exact hel) hk
  · rename_i ik n id m hy hx
    split at h <;> (try (simp at h; done))
    rename_i e k' b' z k b xs ht hl
    cases hb : Nat.beq k k' && decide (0 ≤ n) && decide (n < m) <;> simp only [hb, cond_true, cond_false, reduceCtorEq, Option.some.injEq] at h
    subst h
    simp only [Bool.and_eq_true, decide_eq_true_eq] at hb
    exact okops_idxOwn hT (o := { o with guard := none }) ho rfl hd ht hx hl hb.1.1 hy hb.1.2 hb.2 hk
  · rename_i ik n id lo m hy hx
    split at h <;> (try (simp at h; done))
    rename_i e k' b' z k b xs ht hl
    cases hb : Nat.beq k k' && decide (0 ≤ n) && decide (n < m) <;> simp only [hb, cond_true, cond_false, reduceCtorEq, Option.some.injEq] at h
    subst h
    simp only [Bool.and_eq_true, decide_eq_true_eq] at hb
    exact okops_idxSub hT (o := { o with guard := none }) ho rfl hd ht hx hl hb.1.1 hy hb.1.2 hb.2 hk
  · rename_i ik n v0 _ _ _ hy hx
    split at h <;> (try (simp at h; done))
    rename_i m s ht
    cases hb : decide (0 ≤ n) && decide (n < m) <;> simp only [hb, cond_true, cond_false, reduceCtorEq] at h
    simp only [Bool.and_eq_true, decide_eq_true_eq] at hb
    exact okops_idxArr hT (o := { o with guard := none }) ho rfl hd ht hx hy hb.1 hb.2 h hk
  · simp at h
theorem strIdxV_ok (hT : TabOk P T) {o : Oper} {st : St} {t : TypeId} {x y : Operand} {v : AV} (ho : o.op = .index t x y) (hd : dstOk c.n o.dst = true) (h : strIdxV T t (ev st y) (ev st x) = some v) : StepOk P c o st ⟨v, [], []⟩ := by
  intro ops rest K hk
  unfold strIdxV at h
  split at h <;> (try (simp at h; done))
  rename_i ik n s hy hx
  cases hb : isStrT T t && decide (0 ≤ n) <;> simp only [hb, cond_true, cond_false, reduceCtorEq] at h
  simp only [Bool.and_eq_true, decide_eq_true_eq] at hb
  split at h <;> simp at h
  rename_i b hel
  subst h
  exact okops_idxStr hT (o := { o with guard := none }) ho rfl hd hb.1 hx hy hb.2 (by rw [← nth_eq]; exact hel) hk
theorem loadRV_ok (hT : TabOk P T) {o : Oper} {st : St} {t : TypeId} {x : Operand} {v : AV} (ho : o.op = .load t x) (hd : dstOk c.n o.dst = true) (h : loadRV T st.sto t (ev st x) = some v) : StepOk P c o st ⟨v, [], []⟩ := by
  intro ops rest K hk
  unfold loadRV at h
  split at h <;> (try (simp at h; done))
  rename_i id i off hx
  split at h <;> (try (simp at h; done))
  rename_i g s k b xs ht hl
  split at h <;> (try (simp at h; done))
  rename_i el hel
  exact okops_loadR hT (o := { o with guard := none }) ho rfl hd ht hx hl (by rw [← nth_eq]; exact hel) h hk
theorem storeV_ok (hT : TabOk P T) {o : Oper} {st : St} {t : TypeId} {x y : Operand} {i : Nat} {ob : AObj} (ho : o.op = .store t x y) (hd : o.dst = none) (h : storeV T st.sto t (ev st x) (ev st y) = some (i, ob)) : StepOk P c o st ⟨.any, [(i, some ob)], []⟩ := by
  intro ops rest K hk
  rw [hd] at hk
  unfold storeV at h
  split at h <;> (try (simp at h; done))
  · rename_i id off v hx hy
    split at h <;> (try (simp at h; done))
    rename_i g s cells cs ht hl hc
    cases hb : Nat.beq cs.length s <;> simp only [hb, cond_true, cond_false, reduceCtorEq] at h
    split at h <;> simp at h
    rename_i cells' hsp
    obtain ⟨rfl, rfl⟩ := h
    exact okops_store hT (o := { o with guard := none }) ho rfl hd ht hx hl hy hc hb hsp hk
  · rename_i id j off v hx hy
    split at h <;> (try (simp at h; done))
    rename_i g s k b xs cs ht hl hc
    cases hb : Nat.beq cs.length s <;> simp only [hb, cond_true, cond_false, reduceCtorEq] at h
    split at h <;> (try (simp at h; done))
    rename_i ds el hds hel
    split at h <;> simp at h
    rename_i el' hsp
    obtain ⟨rfl, rfl⟩ := h
    exact okops_storeR hT (o := { o with guard := none }) ho rfl hd ht hx hl (by rw [← nth_eq]; exact hel) hy hc hb hds hsp hk
theorem sliceV_ok (hT : TabOk P T) {o : Oper} {st : St} {t : TypeId} {x : Operand} {lo hi : Option Operand} {v : AV} (ho : o.op = .slice t x lo hi none) (hd : dstOk c.n o.dst = true) (h : sliceV T st.sto t (bndF st lo) (bndF st hi) (ev st x) = some v) : StepOk P c o st ⟨v, [], []⟩ := by
  intro ops rest K hk
  unfold sliceV at h
  split at h
  · rename_i k b xs hx
    split at h <;> (try (simp at h; done))
    rename_i e k' b' z l u ht hl hu
    cases hb : Nat.beq k k' && (Nat.ble l u && Nat.ble u xs.length) <;> simp only [hb, cond_true, cond_false, reduceCtorEq, Option.some.injEq] at h
    subst h
    simp only [Bool.and_eq_true, Nat.ble_eq] at hb
    exact okops_slice hT (o := { o with guard := none }) ho rfl hd ht hx hb.1 (bndF_ok hl) (bndF_ok hu) hb.2.1 hb.2.2 hk
  · rename_i s hx
    split at h <;> (try (simp at h; done))
    rename_i l u hl hu
    cases hb : isStrT T t && (Nat.ble l u && Nat.ble u s.length) <;> simp only [hb, cond_true, cond_false, reduceCtorEq, Option.some.injEq] at h
    subst h
    simp only [Bool.and_eq_true, Nat.ble_eq] at hb
    exact okops_sliceStr hT (o := { o with guard := none }) ho rfl hd hb.1 hx (bndF_ok hl) (bndF_ok hu) hb.2.1 hb.2.2 hk
  · rename_i id n hx
    split at h <;> (try (simp at h; done))
    rename_i e k' b' z k b xs l u ht hrow hl hu
    cases hb : Nat.beq k k' && (Nat.ble l u && Nat.ble u xs.length) <;> simp only [hb, cond_true, cond_false, reduceCtorEq] at h
    simp only [Bool.and_eq_true, Nat.ble_eq] at hb
    cases hb2 : Nat.beq l 0 && (Nat.ble xs.length n || Nat.ble u n) <;> simp only [hb2, cond_true, cond_false, Option.some.injEq] at h
    · subst h
      exact okops_sliceSub hT (o := { o with guard := none }) ho rfl hd ht hx hrow hb.1 (bndF_ok hl) (bndF_ok hu) hb.2.1 hb.2.2 hk
    · subst h
      simp only [Bool.and_eq_true, Bool.or_eq_true, Nat.ble_eq] at hb2
      obtain rfl := Nat.eq_of_beq_eq_true hb2.1
      exact okops_sliceOwn hT (o := { o with guard := none }) ho rfl hd ht hx hrow hb.1 (bndF_ok hl) (bndF_ok hu) hb.2.2 hb2.2 hk
  · simp at h
theorem appV_ok (hT : TabOk P T) {o : Oper} {st : St} {id : Nat} {t t2 : TypeId} {x y : Operand} {e : Ef} (ho : o.op = .call { callee := .builtin .append, args := ⟨[x, y]⟩, argTypes := ⟨[t, t2]⟩ }) (hd : dstOk c.n o.dst = true)
    (h : appV T st id t t2 (ev st x) (ev st y) = some e) (hid : Nat.blt (id + 1) 1000000 = true) (hf : FreshL st e.new) : StepOk P c o st e := by
  intro ops rest K hk
  unfold appV at h
  split at h
  · rename_i i n v hx hy
    split at h <;> (try (simp at h; done))
    rename_i e1 k b z q k' b' xs ht ht2 hl
    obtain ⟨q1, q2, q3⟩ := q
    split at h <;> (try (simp at h; done))
    rename_i ys hs
    cases hb : Nat.beq k k' && Nat.beq b b' && (Nat.ble (n + ys.length) 1000000000 && Nat.ble ((n + ys.length) * b) 100000000000) <;> simp only [hb, cond_true, cond_false, reduceCtorEq, Option.some.injEq] at h
    subst h
    obtain ⟨f1, f2, f3⟩ := hf id (by simp)
    simp only [Bool.and_eq_true, Nat.ble_eq, Nat.blt_eq] at hb hid
    refine okops_appendN hT (o := { o with guard := none }) (id' := id) ho rfl hd ht ht2 (by simp only [Nat.blt_eq]; omega) hx hl (by simp only [Bool.and_eq_true]; exact hb.1) hy hs rfl (by omega) (by omega) f2 f3 f1 ?_
    exact setS_cons hk
  · rename_i v hx hy
    split at h <;> (try (simp at h; done))
    rename_i e1 k b z q ht ht2
    obtain ⟨q1, q2, q3⟩ := q
    split at h <;> (try (simp at h; done))
    rename_i ys hs
    cases hb : Nat.ble ys.length 1000000000 && Nat.ble (ys.length * b) 100000000000 <;> simp only [hb, cond_true, cond_false, reduceCtorEq, Option.some.injEq] at h
    subst h
    simp only [Bool.and_eq_true, Nat.ble_eq] at hb
    refine okops_appendNil hT (o := { o with guard := none }) (id := id) ho rfl hd ht ht2 hid hx hy hs (by omega) (by omega) (fun i hi => hf i (by simp; exact hi)) ?_
    exact setS_cons hk
  · simp at h
end Go.Abs
namespace Go.Abs
open Go
variable {P : Program} {c : Ctx} {T : Tab} {σ : Sig} {φ : Pl} {w : World}
theorem newF_ok (hT : TabOk P T) {o : Oper} {st : St} {id d : Nat} {v : AV} {ob : AObj} (hdst : o.dst = some d) (hd : dstOk c.n o.dst = true) (h : newF T st id o.op = some (v, ob)) (hid : Nat.blt (id + 1) 1000000 = true) (hf : FreshL st [id]) :
    StepOk P c o st ⟨v, [(id, some ob)], [id]⟩ := by
  intro ops rest K hk
  obtain ⟨f1, f2, f3⟩ := hf id (by simp)
  rw [hdst] at hk hd
  replace hk := setS_cons hk
  simp only [dstOk, Nat.blt_eq] at hd hid
  have hd' : (Nat.blt d c.n && Nat.blt id 1000000) = true := by simp only [Bool.and_eq_true, Nat.blt_eq]; omega
  unfold newF at h
  split at h
  · rename_i t ho
    split at h <;> simp at h
    rename_i td ht
    obtain ⟨rfl, rfl⟩ := h
    exact okops_alloc hT (o := { o with guard := none }) ho rfl hdst hd' ht f2 f3 hk
  · rename_i t x ho
    split at h <;> (try (simp at h; done))
    rename_i u hx
    split at h <;> (try (simp at h; done))
    rename_i cs hc
    cases hb : acsMen id cs <;> simp only [hb, cond_true, cond_false, reduceCtorEq, Option.some.injEq, Prod.mk.injEq] at h
    obtain ⟨rfl, rfl⟩ := h
    exact okops_box (o := { o with guard := none }) ho rfl hdst hd' hx hc f2 f3 hb hk
  · rename_i t n parts ho
    split at h <;> (try (simp at h; done))
    rename_i e k b z ht
    split at h <;> (try (simp at h; done))
    rename_i xs hp
    cases hb : Nat.beq parts.toList.length n && (Nat.ble (n * k) 1000000 && Nat.ble (n * b) 1000000 && Nat.ble n 1000000) <;> simp only [hb, cond_true, cond_false, reduceCtorEq, Option.some.injEq, Prod.mk.injEq] at h
    obtain ⟨rfl, rfl⟩ := h
    rw [Bool.and_eq_true] at hb
    exact okops_buildSlice hT (o := { o with guard := none }) ho rfl hdst hd' ht hp hb.1 hb.2 f2 f3 hk
  · rename_i t x y ho
    split at h <;> (try (simp at h; done))
    rename_i e k b z n m ht hx hy
    cases hb : decide (0 ≤ n) && decide (n = m) && (Nat.ble (n.toNat * b) 1000000 && Nat.ble n.toNat 1000000) <;> simp only [hb, cond_true, cond_false, reduceCtorEq, Option.some.injEq, Prod.mk.injEq] at h
    obtain ⟨rfl, rfl⟩ := h
    simp only [Bool.and_eq_true, decide_eq_true_eq, Nat.ble_eq] at hb
    obtain ⟨⟨h0, rfl⟩, h1, h2⟩ := hb
    have hn : ((n.toNat : Nat) : Int) = n := by omega
    exact okops_makeSlice hT (o := { o with guard := none }) (n := n.toNat) ho rfl hdst hd' ht (by rw [hn]; exact hx) (by rw [hn]; exact hy) (by omega) (by omega) f2 f3 hk
  · simp at h
theorem stepE_ok (hT : TabOk P T) {o : Oper} {st : St} {id : Nat} {e : Ef} (hd : dstOk c.n o.dst = true) (h : stepE T st o id = some e) (hid : Nat.blt (id + 1) 1000000 = true) (hf : FreshL st e.new) : StepOk P c o st e := by
  unfold stepE at h
  split at h
  · rename_i v hv
    simp at h; subst h
    intro ops rest K hk
    exact okops_val hT (o := { o with guard := none }) rfl hd hv hk
  split at h
  · rename_i e' he'
    simp at h; subst h
    unfold otherE at he'
    split at he'
    · rename_i x y z ho
      split at he' <;> (try (simp at he'; done))
      rename_i b hb
      split at he' <;> simp at he'
      rename_i v hv
      subst he'
      intro ops rest K hk
      exact okops_pick (o := { o with guard := none }) ho rfl hd hb hv hk
    · rename_i t x y ho
      split at he' <;> simp at he'
      rename_i v hv
      subst he'
      exact idxV_ok hT ho hd hv
    · rename_i t x y ho
      split at he' <;> simp at he'
      rename_i v hv
      subst he'
      exact strIdxV_ok hT ho hd hv
    · rename_i t x ho
      split at he' <;> simp at he'
      rename_i v hv
      subst he'
      exact loadRV_ok hT ho hd hv
    · rename_i t x lo hi ho
      split at he' <;> simp at he'
      rename_i v hv
      subst he'
      exact sliceV_ok hT ho hd hv
    · rename_i x y t t2 ho
      exact appV_ok hT ho hd he' hid hf
    · rename_i f caps ho
      split at he' <;> (try (simp at he'; done))
      rename_i avs ha
      split at he' <;> simp at he'
      rename_i ds hds
      subst he'
      intro ops rest K hk
      exact okops_makeFunc (o := { o with guard := none }) ho rfl hd ha hds hk
    · simp at he'
  cases hD : hasD o.dst with
  | true =>
    simp only [hD, cond_true] at h
    split at h <;> simp at h
    rename_i v ob hn
    subst h
    cases hdst : o.dst with
    | none => simp [hdst, hasD] at hD
    | some d => exact newF_ok hT hdst hd hn hid hf
  | false =>
    simp only [hD, cond_false] at h
    have hdst : o.dst = none := by cases h : o.dst <;> simp_all [hasD]
    split at h <;> (try (simp at h; done))
    rename_i t x y ho
    split at h <;> simp at h
    rename_i i ob hs
    subst h
    exact storeV_ok hT ho hdst hs
section
variable {s s2 : Sto}
theorem idxV_cong {t : TypeId} {vy vx : Option AV} (h : ∀ v, vx = some v → ∀ i ∈ idsV v, look s2 i = look s i) : idxV T s2 t vy vx = idxV T s t vy vx := by
  unfold idxV
  split
  · rfl
  · rw [h _ rfl _ (by simp [idsV, idsC])]
  · rw [h _ rfl _ (by simp [idsV, idsC])]
  · cases arrTy T t with
    | none => rfl
    | some p => simp only; rw [addF_cong (h _ rfl)]
  · rfl
theorem loadRV_cong {t : TypeId} {vx : Option AV} (h : ∀ v, vx = some v → ∀ i ∈ idsV v, look s2 i = look s i) : loadRV T s2 t vx = loadRV T s t vx := by
  unfold loadRV
  split
  · rw [h _ rfl _ (by simp [idsV, idsC])]
  · rfl
theorem storeV_cong {t : TypeId} {vx vy : Option AV} (h : ∀ v, vx = some v → ∀ i ∈ idsV v, look s2 i = look s i) : storeV T s2 t vx vy = storeV T s t vx vy := by
  unfold storeV
  split
  · rw [h _ rfl _ (by simp [idsV, idsC])]
  · rw [h _ rfl _ (by simp [idsV, idsC])]
  · rfl
theorem sliceV_cong {t : TypeId} {lo hi : Nat → Option Nat} {vx : Option AV} (h : ∀ v, vx = some v → ∀ i ∈ idsV v, look s2 i = look s i) : sliceV T s2 t lo hi vx = sliceV T s t lo hi vx := by
  unfold sliceV
  split
  · rfl
  · rfl
  · rw [h _ rfl _ (by simp [idsV, idsC])]
  · rfl
end
theorem srcOf_cong {st st2 : St} {k : Nat} {v : AV} (h : ∀ i ∈ idsV v, look st2.sto i = look st.sto i) : srcOf st2 k v = srcOf st k v := by
  unfold srcOf
  split
  · rfl
  · rfl
  · rw [h _ (by simp [idsV, idsC])]
  · rw [h _ (by simp [idsV, idsC])]
  · rfl
theorem appV_cong {st st2 : St} {id : Nat} {t t2 : TypeId} {vx vy : Option AV} (h : ∀ v, vx = some v → ∀ i ∈ idsV v, look st2.sto i = look st.sto i) (h' : ∀ v, vy = some v → ∀ i ∈ idsV v, look st2.sto i = look st.sto i) :
    appV T st2 id t t2 vx vy = appV T st id t t2 vx vy := by
  unfold appV
  split
  · rw [h _ rfl _ (by simp [idsV, idsC])]
    simp only [srcOf_cong (h' _ rfl)]
  · simp only [srcOf_cong (h' _ rfl)]
  · rfl
theorem partsD_cong {st st2 : St} {k : Nat} : ∀ {parts : List (Nat × Operand)} {i : Nat}, (∀ p ∈ parts, ev st2 p.2 = ev st p.2) → partsD st2 k i parts = partsD st k i parts
  | [], _, _ => rfl
  | (j, x) :: r, i, h => by
    have h1 := h (j, x) List.mem_cons_self
    have ih : ∀ {i}, partsD st2 k i r = partsD st k i r := fun {i} => partsD_cong fun p hp => h p (List.mem_cons_of_mem _ hp)
    simp only at h1
    simp only [partsD, h1, ih]
theorem evL_cong {st st2 : St} : ∀ {l : List Operand}, (∀ x ∈ l, ev st2 x = ev st x) → evL st2 l = evL st l
  | [], _ => rfl
  | x :: r, h => by
    simp only [evL, h x List.mem_cons_self, evL_cong (l := r) fun y hy => h y (List.mem_cons_of_mem _ hy)]
theorem bndF_cong {st st2 : St} {o : Option Operand} (h : ∀ x, o = some x → ev st2 x = ev st x) : bndF st2 o = bndF st o := by
  funext d
  unfold bndF
  cases o with
  | none => rfl
  | some x => simp only [h x rfl]
theorem otherE_cong {st st2 : St} {op : Op} {id : Nat} (hs : ∀ t, t ∈ slotsOf op → look st2.fr t = look st.fr t) (hi : ∀ i, i ∈ opIds st op.operands.toList → look st2.sto i = look st.sto i) : otherE T st2 id op = otherE T st id op := by
  have he : ∀ {x : Operand}, x ∈ op.operands.toList → ev st2 x = ev st x := fun hx => ev_cong hs hx
  have hid : ∀ {x : Operand}, x ∈ op.operands.toList → ∀ v, ev st x = some v → ∀ i, i ∈ idsV v → look st2.sto i = look st.sto i := fun hx v hv i h => hi i (opIds_mem hv h hx)
  unfold otherE
  split
  · rename_i x y z
    rw [he (x := x) (by simp [Op.operands])]
    split
    · rename_i b _
      rw [he (by cases b <;> simp [Op.operands])]
    · rfl
  · rename_i t x y
    rw [he (x := x) (by simp [Op.operands]), he (x := y) (by simp [Op.operands]), idxV_cong (hid (x := x) (by simp [Op.operands]))]
  · rename_i t x y
    rw [he (x := x) (by simp [Op.operands]), he (x := y) (by simp [Op.operands])]
  · rename_i t x
    rw [he (x := x) (by simp [Op.operands]), loadRV_cong (hid (x := x) (by simp [Op.operands]))]
  · rename_i t x lo hi'
    have h1 : bndF st2 lo = bndF st lo := bndF_cong fun y hy => he (by subst hy; simp [Op.operands])
    have h2 : bndF st2 hi' = bndF st hi' := bndF_cong fun y hy => he (by subst hy; cases lo <;> simp [Op.operands])
    rw [he (x := x) (by simp [Op.operands]), h1, h2, sliceV_cong (hid (x := x) (by simp [Op.operands]))]
  · rename_i x y t t2
    rw [he (x := x) (by simp [Op.operands, Call.operands]), he (x := y) (by simp [Op.operands, Call.operands]), appV_cong (hid (x := x) (by simp [Op.operands, Call.operands])) (hid (x := y) (by simp [Op.operands, Call.operands]))]
  · rename_i f caps
    have : evL st2 caps.toList = evL st caps.toList := evL_cong fun x hx => he (by
      simp [Op.operands]
      simpa using hx)
    rw [this]
  · rfl
theorem newF_cong {st st2 : St} {op : Op} {id : Nat} (hs : ∀ t, t ∈ slotsOf op → look st2.fr t = look st.fr t) : newF T st2 id op = newF T st id op := by
  have he : ∀ {x : Operand}, x ∈ op.operands.toList → ev st2 x = ev st x := fun hx => ev_cong hs hx
  unfold newF
  split
  · rfl
  · rename_i t x
    rw [he (x := x) (by simp [Op.operands])]
  · rename_i t n parts
    have : ∀ {k}, partsD st2 k 0 parts.toList = partsD st k 0 parts.toList := fun {k} => partsD_cong fun p hp => he (by
      simp only [Op.operands, List.mem_map]
      simp
      exact ⟨p.1, by simpa using hp⟩)
    simp only [this]
  · rename_i t x y
    rw [he (x := x) (by simp [Op.operands]), he (x := y) (by simp [Op.operands])]
  · rfl
theorem stepE_cong {st st2 : St} {o : Oper} {id : Nat} (hs : ∀ t, t ∈ slotsOf o.op → look st2.fr t = look st.fr t) (hi : ∀ i, i ∈ opIds st o.op.operands.toList → look st2.sto i = look st.sto i) : stepE T st2 o id = stepE T st o id := by
  unfold stepE
  rw [valF_cong hs hi, otherE_cong hs hi, newF_cong hs]
  split
  · rfl
  split
  · rfl
  congr 1
  split
  · rename_i t x y ho
    have he : ∀ {x : Operand}, x ∈ o.op.operands.toList → ev st2 x = ev st x := fun hx => ev_cong hs hx
    have hid : ∀ {x : Operand}, x ∈ o.op.operands.toList → ∀ v, ev st x = some v → ∀ i, i ∈ idsV v → look st2.sto i = look st.sto i := fun hx v hv i h => hi i (opIds_mem hv h hx)
    rw [ho] at he hid
    rw [he (x := x) (by simp [Op.operands]), he (x := y) (by simp [Op.operands]), storeV_cong (hid (x := x) (by simp [Op.operands]))]
  · rfl
end Go.Abs
namespace Go.Abs
open Go
variable {P : Program} {c : Ctx} {T : Tab} {σ : Sig} {φ : Pl} {w : World}
def sealL (st : St) : List Nat → Option St
  | [] => some st
  | id :: r => match look st.sto id with
    | some o => bif isCells o then sealL ⟨sealFr id o st.fr, sealSto id o st.sto⟩ r else none
    | none => none
def delN : List Nat → Sto → Sto
  | [], s => s
  | i :: l, s => del i (delN l s)
theorem look_delN {dl : List Nat} {s : Sto} {i : Nat} {o : AObj} : look (delN dl s) i = some o → look s i = some o ∧ i ∉ dl := by
  induction dl with
  | nil => intro h; exact ⟨h, by simp⟩
  | cons j r ih =>
    intro h
    obtain ⟨h1, h2⟩ := look_del h
    obtain ⟨h3, h4⟩ := ih h2
    exact ⟨h3, by simp [h1, h4]⟩
theorem delN_look {dl : List Nat} {s : Sto} {i : Nat} (hi : i ∉ dl) : look (delN dl s) i = look s i := by
  induction dl with
  | nil => rfl
  | cons j r ih =>
    simp only [List.mem_cons, not_or] at hi
    simp only [delN]
    rw [look_del_ne hi.1, ih hi.2]
theorem delN_none {dl : List Nat} {s : Sto} {i : Nat} (hi : i ∈ dl) : look (delN dl s) i = none := by
  cases h : look (delN dl s) i with
  | none => rfl
  | some o => exact absurd hi (look_delN h).2
theorem Rel.sealL : ∀ {dl : List Nat} {st ss : St} {a : Act} {σ : Sig}, sealL st dl = some ss → Rel c st a w σ φ →
    ∃ σs, σ.le σs ∧ Rel c ss a w σs φ ∧ ∀ b, σs b = σ b ∨ ∃ id o cc, id ∈ dl ∧ look st.sto id = some o ∧ φ id = some (b, cc)
  | [], st, ss, a, σ, h, hr => by
    simp only [Go.Abs.sealL, Option.some.injEq] at h; subst h
    exact ⟨σ, Sig.le_refl _, hr, fun _ => .inl rfl⟩
  | id :: r, st, ss, a, σ, h, hr => by
    simp only [Go.Abs.sealL] at h
    split at h <;> (try (simp at h; done))
    rename_i o hl
    cases hc : isCells o <;> simp only [hc, cond_true, cond_false, reduceCtorEq] at h
    obtain ⟨σ', hS⟩ := hr.inv.sealSig hl hc
    have hle := hS.le
    have hr' : Rel c ⟨sealFr id o st.fr, sealSto id o st.sto⟩ a w σ' φ := by
      refine ⟨Sig.le_trans hr.le hle, fun b hb => ?_, hr.inv.sealing hl hS, fun i e p hi hp => ?_, fun s v hv => ?_, hr.defers, hr.size, hr.fra, hr.pin⟩
      · rcases hS with ⟨_, rfl⟩ | ⟨B, cap, arr, t, hp, hh, hs, rfl⟩
        · exact hr.fresh b hb
        · by_cases e : b = B
          · subst e
            exact .inr (hr.mine _ _ _ hl hp)
          · simp [updS, e] at hb; exact hr.fresh b hb
      · obtain ⟨_, e0, h0, _⟩ := look_sealSto hi
        exact hr.mine _ _ _ h0 hp
      · obtain ⟨v0, h1, rfl⟩ := look_sealFr hv
        obtain ⟨u, h2, h3⟩ := hr.slot s v0 h1
        exact ⟨u, h2, sealV_rep hr.inv hl hS h3⟩
    obtain ⟨σs, h1, h2, h3⟩ := Rel.sealL h hr'
    refine ⟨σs, Sig.le_trans hle h1, h2, fun b => ?_⟩
    rcases h3 b with h4 | ⟨i, o', cc, h5, h6, h7⟩
    · rcases hS with ⟨_, rfl⟩ | ⟨B, cap, arr, t, hp, hh, hs, rfl⟩
      · exact .inl h4
      · by_cases e : b = B
        · subst e; exact .inr ⟨id, o, cap, by simp, hl, hp⟩
        · exact .inl (h4.trans (by simp [updS, e]))
    · obtain ⟨_, e0, h8, _⟩ := look_sealSto h6
      exact .inr ⟨i, e0, cc, by simp [h5], h8, h7⟩
theorem Rel.given {dl : List Nat} {st ss : St} {a : Act} (h : Go.Abs.sealL st dl = some ss) (hr : Rel c st a w σ φ) : ∃ σs, Rel c ss a w σs φ ∧ Rel c ⟨st.fr, delN dl st.sto⟩ a w σs φ := by
  obtain ⟨σs, hle, hrs, hb⟩ := Rel.sealL h hr
  have hE : Ext (fun _ => False) φ φ st.sto (delN dl st.sto) := by
    intro i _
    by_cases hi : i ∈ dl
    · exact .inl (delN_none hi)
    · cases hl : look st.sto i with
      | none => exact .inl (by rw [delN_look hi]; exact hl)
      | some e => exact .inr ⟨e, rfl, rfl, e, by rw [delN_look hi]; exact hl, compat.refl _⟩
  refine ⟨σs, hrs, hrs.le, hrs.fresh, ⟨hrs.inv.sig, fun i e hi => ?_, fun i i' e e' p p' hi hi' => ?_⟩, fun i e p hi hp => ?_, fun s v hv => ?_, hr.defers, hr.size, hr.fra, hr.pin⟩
  · obtain ⟨h1, h2⟩ := look_delN hi
    have ho := hr.inv.obj _ _ h1
    refine ho.ext (X := fun _ => False) hle hE (fun j hj => hj.elim) rfl fun B cc hB => ⟨rfl, ?_⟩
    rcases hb B with h3 | ⟨j, o, cc', h4, h5, h6⟩
    · exact h3
    · have := hr.inv.inj _ _ _ _ (B, cc) (B, cc') h1 h5 (fun e => h2 (e ▸ h4)) hB h6
      exact absurd rfl this
  · exact hr.inv.inj _ _ _ _ _ _ (look_delN hi).1 (look_delN hi').1
  · exact hr.mine _ _ _ (look_delN hi).1 hp
  · obtain ⟨u, hu, hru⟩ := hr.slot s v hv
    exact ⟨u, hu, hru.ext hle hE fun j hj => hj.elim⟩
theorem compatL_nil {st : St} {r : Nat → Nat} : ∀ {l : Sto}, CompatL st r [] l
  | [] => trivial
  | _ :: l => ⟨fun i e h => by simp [look] at h, compatL_nil⟩
theorem avsD_caps : ∀ {ds : List D}, avsD (ds.map fun x => AV.one (.d x)) = true
  | [] => rfl
  | _ :: l => by simp only [List.map_cons, avsD, avD, avsD_caps (ds := l), Bool.and_self]
theorem avsD_app : ∀ {a b : List AV}, avsD a = true → avsD b = true → avsD (a ++ b) = true
  | [], _, _, h => h
  | x :: l, b, h, h' => by
    simp only [avsD, Bool.and_eq_true] at h
    simp only [List.cons_append, avsD, h.1, avsD_app h.2 h', Bool.and_self]
theorem okops_callX {ops : Array Oper} {o : Oper} {rest : List Oper} {st ss : St} {K : St → Prop} {fop : Operand} {args : Array Operand} {ats : Array TypeId} {f : FuncId} {caps : List D} {avs : List AV} {rav : AV} {rsto : Sto} (k : Nat) (dl : List Nat)
    (ho : o.op = .call { callee := .value fop, args := args, argTypes := ats }) (hg : o.guard = none) (hd : dstOk c.n o.dst = true) (hss : sealL st dl = some ss) (hf : ev ss fop = some (.one (.d (.fn f caps))))
    (ha : evL ss args.toList = some avs) (hD : avsD avs = true) (hC : CallA P f (avs ++ caps.map fun x => .one (.d x)) [] rav rsto)
    (hk : (keysOk [] rsto && Nat.ble (k + 16) 1000000 && avIn rsto rav && stoIn rsto rsto) = true) (hfresh : FreshR k ⟨st.fr, delN dl st.sto⟩)
    (h : OkOps P c ops rest ⟨putO o.dst (renV (rn k []) rav) st.fr, putR (rn k []) (delN dl st.sto) rsto⟩ K) : OkOps P c ops (o :: rest) st K := by
  refine okops_enter hg fun a w σ φ hr => ?_
  obtain ⟨σs, hs, hr1⟩ := hr.given hss
  have hfr := ev_rep hs hf
  replace hfr := RepC.d_inv hfr
  generalize hfe : a.eval fop = fv at hfr
  simp only [Bool.and_eq_true] at hk
  cases hfr with
  | fn cvs hl hcs =>
    have hcaps : All2 (RepV σs φ (delN dl st.sto)) (caps.map fun x => .one (.d x)) cvs := by
      refine All2.of_get (by simp [hl]) fun j x v hx hv => ?_
      simp only [List.getElem?_map, Option.map_eq_some_iff] at hx
      obtain ⟨d, hd, rfl⟩ := hx
      exact RepC.d (hcs j d v hd hv)
    have hargs := avsD_rep (σ' := σs) (φ' := φ) (sto' := delN dl st.sto) (Sig.le_refl _) hD (evL_rep hs ha)
    refine ⟨f, _, _, run_call ho hfe hC.fn, call_ret (o := o) k [] hr1 hd hC (by rw [renL_app, renL_caps, renL_d hD]; exact hargs.append hcaps) trivial compatL_nil ?_ hfresh, ?_⟩
    · simp only [bigK, injK, allIn, keysNd, stoIn, Bool.true_and, Bool.and_true, hk.1.1.1, hk.1.1.2, hk.1.2, hk.2, avsIn_d (avsD_app hD avsD_caps)]
    rintro e w' ⟨v, σ', φ', rfl, hr'⟩
    exact ⟨v, _, σ', φ', rfl, hr', h⟩
def putW (r : Nat → Nat) : Sto → List (Nat × Option AObj)
  | [] => []
  | (j, o) :: l => (r j, some (renO r o)) :: putW r l
def delW : List Nat → List (Nat × Option AObj)
  | [] => []
  | i :: l => (i, none) :: delW l
theorem appW_del {s : Sto} : ∀ {dl : List Nat}, appW (delW dl) s = delN dl s
  | [] => rfl
  | i :: l => by simp only [delW, appW, delN, appW_del (dl := l)]
theorem appW_put {r : Nat → Nat} {s : Sto} {d : List (Nat × Option AObj)} : ∀ {rs : Sto}, appW (putW r rs ++ d) s = putR r (appW d s) rs
  | [] => rfl
  | (j, o) :: l => by simp only [putW, List.cons_append, appW, putR, appW_put (rs := l)]
def rng (k : Nat) : Nat → List Nat
  | 0 => []
  | n + 1 => (k + n) :: rng k n
theorem rng_mem {k i : Nat} : ∀ {n : Nat}, i ∈ rng k n ↔ k ≤ i ∧ i < k + n
  | 0 => by simp only [rng, List.not_mem_nil, false_iff]; omega
  | n + 1 => by simp only [rng, List.mem_cons, rng_mem (n := n)]; omega
def callTr (k : Nat) (dl ri : List Nat) (rav : AV) (rsto : Sto) : Tr := ⟨renV (rn k []) rav, putW (rn k []) rsto ++ delW dl, ri, rng k 16⟩
theorem stoMen_delN {i : Nat} {s : Sto} (h : stoMen i s = false) : ∀ {dl : List Nat}, stoMen i (delN dl s) = false
  | [] => h
  | _ :: l => stoMen_del (stoMen_delN h (dl := l))
theorem loc_callD {o : Oper} {st : St} {fop : Operand} {args : Array Operand} {ats : Array TypeId} {f : FuncId} {caps : List D} {avs : List AV} {rav : AV} {rsto : Sto} (k : Nat)
    (ho : o.op = .call { callee := .value fop, args := args, argTypes := ats }) (hd : dstOk c.n o.dst = true) (hf : ev st fop = some (.one (.d (.fn f caps))))
    (ha : evL st args.toList = some avs) (hD : avsD avs = true) (hC : CallA P f (avs ++ caps.map fun x => .one (.d x)) [] rav rsto)
    (hk : (keysOk [] rsto && Nat.ble (k + 16) 1000000 && avIn rsto rav && stoIn rsto rsto) = true) : Loc P c o st (callTr k [] [] rav rsto) := by
  intro st2 hs hri hnew ops rest K h
  have he : ∀ {x : Operand}, x ∈ o.op.operands.toList → ev st2 x = ev st x := fun hx => ev_cong hs hx
  rw [ho] at he
  have ha2 : evL st2 args.toList = some avs := (evL_cong fun x hx => he (by simp [Op.operands, Call.operands]; exact .inr (by simpa using hx))).trans ha
  refine okops_callX (o := { o with guard := none }) k [] ho rfl hd rfl ((he (by simp [Op.operands, Call.operands])).trans hf) ha2 hD hC hk (fun i h1 h2 => ?_) ?_
  · exact hnew i (rng_mem.2 ⟨h1, h2⟩)
  · simp only [callTr, delW, List.append_nil] at h
    have := appW_put (r := rn k []) (s := st2.sto) (d := []) (rs := rsto)
    simp only [List.append_nil] at this
    rw [this] at h
    exact h
def objsL (s : Sto) : List Nat → Option (List (Nat × AObj))
  | [] => some []
  | id :: r => match look s id with
    | some o => bif isCells o then (match objsL (sealSto id o s) r with | some l => some ((id, o) :: l) | none => none) else none
    | none => none
def sealVs : List (Nat × AObj) → AV → AV
  | [], v => v
  | (id, o) :: r, v => sealVs r (sealV id o v)
def evS (os : List (Nat × AObj)) (st : St) (x : Operand) : Option AV := match ev st x with | some v => some (sealVs os v) | none => none
def evLS (os : List (Nat × AObj)) (st : St) : List Operand → Option (List AV)
  | [] => some []
  | x :: r => match evS os st x with
    | some v => (match evLS os st r with | some l => some (v :: l) | none => none)
    | none => none
theorem look_sealFr_eq {id : Nat} {o : AObj} : ∀ {fr : List (Nat × AV)} {s : Nat}, look (sealFr id o fr) s = match look fr s with | some v => some (sealV id o v) | none => none
  | [], _ => rfl
  | (t, v) :: l, s => by
    simp only [sealFr, look]
    cases Nat.beq t s with
    | true => rfl
    | false => simp only [cond_false]; exact look_sealFr_eq
theorem sealL_objs : ∀ {dl : List Nat} {st : St} {os : List (Nat × AObj)}, objsL st.sto dl = some os → ∃ ss, sealL st dl = some ss ∧ ∀ x, ev ss x = evS os st x
  | [], st, os, h => by
    simp only [objsL, Option.some.injEq] at h; subst h
    refine ⟨st, rfl, fun x => ?_⟩
    unfold evS
    cases ev st x <;> rfl
  | id :: r, st, os, h => by
    simp only [objsL] at h
    split at h <;> (try (simp at h; done))
    rename_i o hl
    cases hc : isCells o <;> simp only [hc, cond_true, cond_false, reduceCtorEq] at h
    split at h <;> simp at h
    rename_i l hr
    subst h
    obtain ⟨ss, h1, h2⟩ := sealL_objs (st := ⟨sealFr id o st.fr, sealSto id o st.sto⟩) hr
    refine ⟨ss, by simp only [sealL, hl, hc, cond_true]; exact h1, fun x => ?_⟩
    rw [h2]
    cases x with
    | tmp t =>
      simp only [evS, ev]
      rw [look_sealFr_eq]
      cases look st.fr t <;> rfl
    | const v =>
      simp only [evS, ev]
      cases cst v <;> rfl
    | func f => rfl
    | global g => rfl
theorem evL_evLS {os : List (Nat × AObj)} {st ss : St} (h : ∀ x, ev ss x = evS os st x) : ∀ {l : List Operand}, evL ss l = evLS os st l
  | [] => rfl
  | x :: r => by simp only [evL, evLS, h x, evL_evLS h (l := r)] <;> rfl
theorem look_sealSto_eq {id : Nat} {o : AObj} {s : Sto} {i : Nat} (hi : i ≠ id) : look (sealSto id o s) i = match look s i with | some e => some (sealO id o e) | none => none := by
  cases hl : look s i with
  | none => exact look_sealSto_none hl
  | some e => exact look_sealSto_of hi hl
theorem look_sealSto_self {id : Nat} {o : AObj} {s : Sto} : look (sealSto id o s) id = none := by
  cases hl : look (sealSto id o s) id with
  | none => rfl
  | some e => exact absurd rfl (look_sealSto hl).1
theorem objsL_cong : ∀ {dl : List Nat} {s s2 : Sto}, (∀ i ∈ dl, look s2 i = look s i) → objsL s2 dl = objsL s dl
  | [], _, _, _ => rfl
  | id :: r, s, s2, h => by
    simp only [objsL]
    rw [h id List.mem_cons_self]
    cases hl : look s id with
    | none => rfl
    | some o =>
      simp only
      have : objsL (sealSto id o s2) r = objsL (sealSto id o s) r := objsL_cong fun i hi => by
        by_cases e : i = id
        · subst e; rw [look_sealSto_self, look_sealSto_self]
        · rw [look_sealSto_eq e, look_sealSto_eq e, h i (List.mem_cons_of_mem _ hi)]
      rw [this]
theorem evLS_cong {os : List (Nat × AObj)} {st st2 : St} : ∀ {l : List Operand}, (∀ x ∈ l, ev st2 x = ev st x) → evLS os st2 l = evLS os st l
  | [], _ => rfl
  | x :: r, h => by
    simp only [evLS, evS, h x List.mem_cons_self, evLS_cong (l := r) fun y hy => h y (List.mem_cons_of_mem _ hy)]
theorem loc_callX {o : Oper} {st : St} {fop : Operand} {args : Array Operand} {ats : Array TypeId} {f : FuncId} {caps : List D} {avs : List AV} {rav : AV} {rsto : Sto} {os : List (Nat × AObj)} (k : Nat) (dl : List Nat)
    (ho : o.op = .call { callee := .value fop, args := args, argTypes := ats }) (hd : dstOk c.n o.dst = true) (hos : objsL st.sto dl = some os) (hf : evS os st fop = some (.one (.d (.fn f caps))))
    (ha : evLS os st args.toList = some avs) (hD : avsD avs = true) (hC : CallA P f (avs ++ caps.map fun x => .one (.d x)) [] rav rsto)
    (hk : (keysOk [] rsto && Nat.ble (k + 16) 1000000 && avIn rsto rav && stoIn rsto rsto) = true) : Loc P c o st (callTr k dl dl rav rsto) := by
  intro st2 hs hri hnew ops rest K h
  have he : ∀ {x : Operand}, x ∈ o.op.operands.toList → ev st2 x = ev st x := fun hx => ev_cong hs hx
  rw [ho] at he
  have hos2 : objsL st2.sto dl = some os := (objsL_cong hri).trans hos
  obtain ⟨ss, h1, h2⟩ := sealL_objs hos2
  have ha2 : evL ss args.toList = some avs := by
    rw [evL_evLS h2, evLS_cong (st := st) fun x hx => he (by simp [Op.operands, Call.operands]; exact .inr (by simpa using hx))]
    exact ha
  have hf2 : ev ss fop = some (.one (.d (.fn f caps))) := by
    rw [h2]
    unfold evS
    rw [he (x := fop) (by simp [Op.operands, Call.operands])]
    exact hf
  refine okops_callX (o := { o with guard := none }) k dl ho rfl hd h1 hf2 ha2 hD hC hk (fun i h3 h4 => ?_) ?_
  · obtain ⟨n1, n2, n3⟩ := hnew i (rng_mem.2 ⟨h3, h4⟩)
    refine ⟨?_, n2, stoMen_delN n3⟩
    cases hl : look (delN dl st2.sto) i with
    | none => rfl
    | some e => rw [(look_delN hl).1] at n1; cases n1
  · simp only [callTr] at h
    rw [appW_put, appW_del] at h
    exact h
end Go.Abs
namespace Go.Abs
open Go
variable {P : Program} {c : Ctx} {T : Tab} {σ : Sig} {φ : Pl} {w : World}
inductive KK where
  | int (k : IntKind) | bool | str
def fitsK : KK → D → Prop
  | .int k, .int k' _ => k' = k
  | .bool, .bool _ => True
  | .str, .str _ => True
  | _, _ => False
def shapeFs (F : TypeId → Option (List KK)) : Nat → List Field → Option (List KK)
  | _, [] => some []
  | off, f :: r => match F f.type with
    | some ks => bif Nat.beq f.offset off && (f.name != "_") then (match shapeFs F (off + ks.length) r with | some l => some (ks ++ l) | none => none) else none
    | none => none
def shapeP (P : Program) : Nat → TypeId → Option (List KK)
  | 0, _ => none
  | d + 1, t => match P.underlying t with
    | some .bool => bif Nat.beq (P.cellsOf t) 1 then some [.bool] else none
    | some (.int q) => bif Nat.beq (P.cellsOf t) 1 then some [.int q] else none
    | some .string => bif Nat.beq (P.cellsOf t) 1 then some [.str] else none
    | some (.array n e) => match shapeP P d e with
      | some ks => bif Nat.beq (n * ks.length) (P.cellsOf t) then some (List.replicate n ks).flatten else none
      | none => none
    | some (.struct fs) => match shapeFs (shapeP P d) 0 fs.toList with
      | some l => bif Nat.beq l.length (P.cellsOf t) then some l else none
      | none => none
    | _ => none
def litOf : D → Lit
  | .int k n => .int k n
  | .bool b => .bool b
  | .str s => .string s
  | _ => .nil
theorem shapeP_len : ∀ (d : Nat) {t : TypeId} {ks : List KK}, shapeP P d t = some ks → ks.length = P.cellsOf t
  | 0, _, _, h => by simp [shapeP] at h
  | d + 1, t, ks, h => by
    have hone : ∀ {k : KK}, (bif Nat.beq (P.cellsOf t) 1 then some [k] else none) = some ks → ks.length = P.cellsOf t := by
      intro k h
      cases hb : Nat.beq (P.cellsOf t) 1 <;> simp only [hb, cond_true, cond_false, reduceCtorEq, Option.some.injEq] at h
      subst h
      rw [Nat.eq_of_beq_eq_true hb]; rfl
    simp only [shapeP] at h
    split at h
    · exact hone h
    · exact hone h
    · exact hone h
    · rename_i n e _
      split at h <;> (try (simp at h; done))
      rename_i k' hk
      cases hb : Nat.beq (n * k'.length) (P.cellsOf t) <;> simp only [hb, cond_true, cond_false, reduceCtorEq, Option.some.injEq] at h
      subst h
      rw [← Nat.eq_of_beq_eq_true hb, flatten_len (k := k'.length) (fun x hx => by rw [List.eq_of_mem_replicate hx])]
      simp
    · split at h <;> (try (simp at h; done))
      rename_i l hl
      cases hb : Nat.beq l.length (P.cellsOf t) <;> simp only [hb, cond_true, cond_false, reduceCtorEq, Option.some.injEq] at h
      subst h
      exact Nat.eq_of_beq_eq_true hb
    · simp at h
theorem mapM_some {α β : Type} {f : α → Option β} {g : α → β} : ∀ {l : List α}, (∀ a ∈ l, f a = some (g a)) → l.mapM f = some (l.map g)
  | [], _ => rfl
  | a :: l, h => by
    rw [List.mapM_cons, h a List.mem_cons_self, mapM_some fun b hb => h b (List.mem_cons_of_mem _ hb)]
    rfl
theorem chunks_flat {α : Type} {m : Nat} : ∀ {n : Nat} {l : List α}, l.length = n * m → ((List.range n).map fun i => (l.drop (i * m)).take m).flatten = l
  | 0, l, h => by simp at h; simp [h]
  | n + 1, l, h => by
    rw [List.range_succ_eq_map]
    simp only [List.map_cons, List.map_map, List.flatten_cons, Nat.zero_mul, List.drop_zero]
    have h1 : (l.drop m).length = n * m := by rw [List.length_drop, h, Nat.succ_mul]; omega
    have ih := chunks_flat (m := m) (n := n) (l := l.drop m) h1
    have e : ((fun i => (l.drop (i * m)).take m) ∘ Nat.succ) = fun i => ((l.drop m).drop (i * m)).take m := by
      funext i
      simp only [Function.comp, List.drop_drop, Nat.succ_mul, Nat.succ_eq_add_one, Nat.add_mul, Nat.one_mul]
      rw [Nat.add_comm]
    rw [e, ih, List.take_append_drop]
theorem keyLits_shape : ∀ (d : Nat) {t : TypeId} {ks : List KK} {ds : List D} {vs : List Value}, shapeP P d t = some ks → All2 (Rep σ) ds vs → All2 fitsK ks ds → P.keyLits d t vs = some (ds.map litOf)
  | 0, _, _, _, _, h, _, _ => by simp [shapeP] at h
  | d + 1, t, ks, ds, vs, h, hr, hf => by
    have hlen := shapeP_len (d + 1) h
    have hl1 := hr.length
    have hl2 := hf.length
    have one : ∀ {k : KK}, (bif Nat.beq (P.cellsOf t) 1 then some [k] else none) = some ks → ∃ x v, ds = [x] ∧ vs = [v] ∧ Rep σ x v ∧ fitsK k x := by
      intro k h
      cases hb : Nat.beq (P.cellsOf t) 1 <;> simp only [hb, cond_true, cond_false, reduceCtorEq, Option.some.injEq] at h
      subst h
      match ds, vs, hr, hf with
      | [x], [v], hr, hf => exact ⟨x, v, rfl, rfl, hr.1, hf.1⟩
    simp only [shapeP] at h
    split at h
    · rename_i hu
      obtain ⟨x, v, rfl, rfl, h1, h2⟩ := one h
      cases h1 <;> simp [fitsK] at h2
      simp [Program.keyLits, hu, litOf]
    · rename_i q hu
      obtain ⟨x, v, rfl, rfl, h1, h2⟩ := one h
      cases h1 <;> simp [fitsK] at h2
      rename_i k n hin
      subst h2
      have hwf : (Lit.int k n).wf = true := by simp [Lit.wf, hin.1, hin.2]
      simp [Program.keyLits, hu, litOf, hwf]
    · rename_i hu
      obtain ⟨x, v, rfl, rfl, h1, h2⟩ := one h
      cases h1 <;> simp [fitsK] at h2
      rename_i s hs
      have : s.toArray.size ≤ maxLen := by simp [maxLen]; omega
      have hsz : (ByteArray.mk s.toArray).size ≤ maxLen := this
      simp [Program.keyLits, hu, litOf, hsz]
    · rename_i n e hu
      split at h <;> (try (simp at h; done))
      rename_i k' hk
      cases hb : Nat.beq (n * k'.length) (P.cellsOf t) <;> simp only [hb, cond_true, cond_false, reduceCtorEq, Option.some.injEq] at h
      subst h
      have hce := shapeP_len d hk
      have hn := Nat.eq_of_beq_eq_true hb
      simp only [Program.keyLits, hu]
      rw [if_pos (by omega), ← hce]
      have hds : ds.length = n * k'.length := by omega
      rw [mapM_some (g := fun i => ((ds.drop (i * k'.length)).take k'.length).map litOf) fun i hi => ?_]
      · simp only [Option.map_some, Option.some.injEq]
        have := chunks_flat (m := k'.length) (n := n) (l := ds.map litOf) (by simpa using hds)
        rw [← this]
        congr 1
        refine List.map_congr_left fun i _ => ?_
        rw [List.map_take, List.map_drop]
      · simp only [List.mem_range] at hi
        refine keyLits_shape d hk ((hr.drop _).take _) ?_
        have hx : ((List.replicate n k').flatten.drop (i * k'.length)).take k'.length = k' := by
          have h3 := fun (j : Nat) => flatten_get (k := k'.length) (xs := List.replicate n k') (i := i) (j := j) (x := k') (fun x hx => by rw [List.eq_of_mem_replicate hx])
          refine List.ext_getElem? fun j => ?_
          rw [List.getElem?_take]
          split
          · rename_i hj
            rw [List.getElem?_drop]
            exact h3 j (by simp [hi]) hj
          · rename_i hj
            rw [List.getElem?_eq_none (by omega)]
        have := (hf.drop (i * k'.length)).take k'.length
        rw [hx] at this
        exact this
    · rename_i fs hu
      split at h <;> (try (simp at h; done))
      rename_i l hl
      cases hb : Nat.beq l.length (P.cellsOf t) <;> simp only [hb, cond_true, cond_false, reduceCtorEq, Option.some.injEq] at h
      subst h
      -- the fields, one behind the other
      have key : ∀ (gs : List Field) (off : Nat) (l : List KK) (ds : List D) (vs0 vs : List Value), shapeFs (shapeP P d) off gs = some l → vs0.length = off → All2 (Rep σ) ds vs → All2 fitsK l ds →
          gs.all (·.name != "_") = true ∧ ∃ Ls : List (List Lit), gs.mapM (fun f => P.keyLits d f.type (((vs0 ++ vs).drop f.offset).take (P.cellsOf f.type))) = some Ls ∧ Ls.flatten = ds.map litOf := by
        intro gs
        induction gs with
        | nil =>
          intro off l ds vs0 vs hs _ hr hf
          simp only [shapeFs, Option.some.injEq] at hs; subst hs
          have : ds = [] := by cases ds with
            | nil => rfl
            | cons _ _ => exact hf.elim
          subst this
          exact ⟨rfl, [], rfl, rfl⟩
        | cons f r ih =>
          intro off l ds vs0 vs hs h0 hr hf
          simp only [shapeFs] at hs
          split at hs <;> (try (simp at hs; done))
          rename_i k' hk
          cases hb : Nat.beq f.offset off && (f.name != "_") <;> simp only [hb, cond_true, cond_false, reduceCtorEq] at hs
          rw [Bool.and_eq_true] at hb
          have hoff := Nat.eq_of_beq_eq_true hb.1
          split at hs <;> simp at hs
          rename_i l' hl'
          subst hs
          have hce := shapeP_len d hk
          have hfl := hf.length
          have hrl := hr.length
          simp only [List.length_append] at hfl
          have hf1 : All2 fitsK k' (ds.take k'.length) := by
            have := hf.take k'.length
            rwa [List.take_left] at this
          have hf2 : All2 fitsK l' (ds.drop k'.length) := by
            have := hf.drop k'.length
            rwa [List.drop_left] at this
          have h1 := keyLits_shape d hk (hr.take k'.length) hf1
          obtain ⟨h2, Ls, h3, h4⟩ := ih (off + k'.length) l' (ds.drop k'.length) (vs0 ++ vs.take k'.length) (vs.drop k'.length) hl' (by simp; omega) (hr.drop _) hf2
          refine ⟨by simp only [List.all_cons, hb.2, h2, Bool.and_self], (ds.take k'.length).map litOf :: Ls, ?_, ?_⟩
          · rw [List.mapM_cons]
            have e1 : ((vs0 ++ vs).drop f.offset).take (P.cellsOf f.type) = vs.take k'.length := by
              rw [hoff, ← h0, List.drop_left, hce]
            have e2 : (vs0 ++ vs.take k'.length) ++ vs.drop k'.length = vs0 ++ vs := by rw [List.append_assoc, List.take_append_drop]
            rw [e2] at h3
            rw [e1, h1, h3]
            rfl
          · rw [List.flatten_cons, h4, ← List.map_append, List.take_append_drop]
      obtain ⟨h1, Ls, h2, h3⟩ := key fs.toList 0 l ds [] vs hl rfl hr hf
      simp only [Program.keyLits, hu]
      have hall : fs.all (·.name != "_") = true := by rw [← Array.all_toList]; exact h1
      rw [if_pos ⟨by omega, hall⟩]
      simp only [List.nil_append] at h2
      rw [h2]
      simp [h3]
    · simp at h
end Go.Abs
namespace Go.Abs
open Go
variable {P : Program} {c : Ctx} {T : Tab} {σ : Sig} {φ : Pl} {w : World}
def fitB : KK → D → Bool
  | .int k, .int k' _ => kEq k' k
  | .bool, .bool _ => true
  | .str, .str _ => true
  | _, _ => false
def fitsB : List KK → List D → Bool
  | [], [] => true
  | k :: ks, d :: ds => fitB k d && fitsB ks ds
  | _, _ => false
theorem fitB_ok {k : KK} {d : D} (h : fitB k d = true) : fitsK k d := by
  cases k <;> cases d <;> simp [fitB, fitsK] at h ⊢
  exact kEq_eq h
theorem fitsB_ok : ∀ {ks : List KK} {ds : List D}, fitsB ks ds = true → All2 fitsK ks ds
  | [], [], _ => trivial
  | _ :: _, _ :: _, h => by
    simp only [fitsB, Bool.and_eq_true] at h
    exact ⟨fitB_ok h.1, fitsB_ok h.2⟩
  | [], _ :: _, h => by simp [fitsB] at h
  | _ :: _, [], h => by simp [fitsB] at h
def eqD : D → D → Bool
  | .int _ x, .int _ y => x == y
  | .bool x, .bool y => x == y
  | .str x, .str y => x == y
  | _, _ => false
def eqDs : List D → List D → Bool
  | [], [] => true
  | x :: xs, y :: ys => eqD x y && eqDs xs ys
  | _, _ => false
theorem eqDs_iff : ∀ {ks : List KK} {ds es : List D}, All2 fitsK ks ds → All2 fitsK ks es → (eqDs ds es = true ↔ ds.map litOf = es.map litOf)
  | [], [], [], _, _ => by simp [eqDs]
  | k :: ks, d :: ds, e :: es, h, h' => by
    have ih := eqDs_iff h.2 h'.2
    have h1 := h.1
    have h2 := h'.1
    simp only [eqDs, Bool.and_eq_true, List.map_cons, List.cons.injEq, ih]
    refine and_congr_left fun _ => ?_
    cases k <;> cases d <;> simp only [fitsK] at h1 <;> cases e <;> simp only [fitsK] at h2 <;> simp [eqD, litOf, h1, h2]
  | [], _ :: _, _, h, _ => h.elim
  | _ :: _, [], _, h, _ => h.elim
  | [], [], _ :: _, _, h => h.elim
  | _ :: _, _ :: _, [], _, h => h.elim
def isAggU (P : Program) (t : TypeId) : Bool := match P.underlying t with | some (.struct _) | some (.array _ _) => true | _ => false
abbrev ETab := List (Nat × List KK)
structure EOk (P : Program) (t : TypeId) (ks : List KK) : Prop where
  shape : shapeP P 6 t = some ks
  key : P.keyTypeAt 6 t = true
  agg : isAggU P t = true
  guard : P.eqGuardType P.depth t = false
def ETabOk (P : Program) (E : ETab) : Prop := ∀ t ks, look E t = some ks → EOk P t ks
theorem agg_formed {t : TypeId} {ks : List KK} (h : EOk P t ks) {vs : List Value} (hl : vs.length = ks.length) : (Value.agg vs.toArray).formed P t = true := by
  have hs := shapeP_len 6 h.shape
  have ha := h.agg
  unfold isAggU at ha
  unfold Value.formed
  split at ha <;> simp_all
theorem equal_run {t : TypeId} {ks : List KK} (h : EOk P t ks) {ds es : List D} {vs us : List Value} (h1 : All2 (Rep σ) ds vs) (h2 : All2 (Rep σ) es us) (f1 : All2 fitsK ks ds) (f2 : All2 fitsK ks es) (w : World) :
    (Op.equalIn 10000 t (.agg vs.toArray) (.agg us.toArray)).run P w = .ok (eqDs ds es) w := by
  have l1 := h1.length
  have l2 := h2.length
  have l3 := f1.length
  have l4 := f2.length
  obtain ⟨r, hr, hiff⟩ := run_equalIn_deep 9994 6 t h.key w 6 6 _ _ _ _ (agg_formed h (vs := vs) (by omega)) (agg_formed h (vs := us) (by omega)) (keyLits_shape 6 h.shape h1 f1) (keyLits_shape 6 h.shape h2 f2)
  have : r = eqDs ds es := by
    have h3 := eqDs_iff f1 f2
    cases r <;> cases he : eqDs ds es <;> simp_all
  rw [← this]
  exact hr
def eqlF (E : ETab) (t : TypeId) : Option AV → Option AV → Option Bool
  | some (.agg c1), some (.agg c2) => match look E t, allD c1, allD c2 with
    | some ks, some ds, some es => bif fitsB ks ds && fitsB ks es then some (eqDs ds es) else none
    | _, _, _ => none
  | _, _ => none
def isEql : BinOp → Option Bool
  | .eql => some true
  | .neq => some false
  | _ => none
theorem okops_eql {E : ETab} (hE : ETabOk P E) {ops : Array Oper} {o : Oper} {rest : List Oper} {st : St} {K : St → Prop} {op : BinOp} {t ty : TypeId} {x y : Operand} {b e : Bool}
    (ho : o.op = .binOp op t x y ty) (hop : isEql op = some e) (hg : o.guard = none) (hd : dstOk c.n o.dst = true) (hv : eqlF E t (ev st x) (ev st y) = some b)
    (h : OkOps P c ops rest ⟨putO o.dst (.one (.d (.bool (b == e)))) st.fr, st.sto⟩ K) : OkOps P c ops (o :: rest) st K :=
  okops_run hg fun a w σ φ hr => by
    unfold eqlF at hv
    split at hv <;> (try (simp at hv; done))
    rename_i c1 c2 hx hy
    split at hv <;> (try (simp at hv; done))
    rename_i ks ds es hl h1 h2
    cases hb : fitsB ks ds && fitsB ks es <;> simp only [hb, cond_true, cond_false, reduceCtorEq, Option.some.injEq] at hv
    subst hv
    rw [Bool.and_eq_true] at hb
    have hk := hE t ks hl
    obtain rfl := allD_eq h1
    obtain rfl := allD_eq h2
    obtain ⟨vs, hvs, r1⟩ := ev_rep hr hx
    obtain ⟨us, hus, r2⟩ := ev_rep hr hy
    have heq := equal_run hk (acs_d r1) (acs_d r2) (fitsB_ok hb.1) (fitsB_ok hb.2) w
    have hgd := run_eqGuard_agg (P := P) (w := w) op t x y vs.toArray us.toArray hk.guard
    refine ⟨.bool (eqDs ds es == e), w, _, σ, φ, ?_, hr.put (v := .one (.d (.bool (eqDs ds es == e)))) hd (RepC.d .bool), h⟩
    cases op <;> simp only [isEql, Option.some.injEq, reduceCtorEq] at hop <;> subst hop
    · simp only [execOp, ho, hvs, hus, Sem.run_bind, hgd, Result.andThen_ok, run_eql_struct, heq, Sem.run_pure]
      simp
    · simp only [execOp, ho, hvs, hus, Sem.run_bind, hgd, Result.andThen_ok, run_neq_struct, heq, Sem.run_pure]
      simp
end Go.Abs
namespace Go.Abs
open Go
variable {P : Program} {c : Ctx} {T : Tab} {σ : Sig} {φ : Pl} {w : World}
structure KOk (P : Program) (t : TypeId) (kg : Bool) (ks : List KK) : Prop where
  shape : shapeP P 6 t = some ks
  key : P.keyTypeAt 6 t = true
  agg : isAggU P t = kg
theorem fits_val {k : KK} {d e : D} {v u : Value} (hd : fitsK k d) (he : fitsK k e) (hv : Rep σ d v) (hu : Rep σ e u) : (eqD d e = true ↔ v = u) := by
  cases k <;> cases d <;> simp only [fitsK] at hd <;> cases e <;> simp only [fitsK] at he <;> cases hv <;> cases hu <;> simp [eqD, hd, he]
theorem fits_vals : ∀ {ks : List KK} {ds es : List D} {vs us : List Value}, All2 fitsK ks ds → All2 fitsK ks es → All2 (Rep σ) ds vs → All2 (Rep σ) es us → (eqDs ds es = true ↔ vs = us)
  | [], [], [], [], [], _, _, _, _ => by simp [eqDs]
  | k :: ks, d :: ds, e :: es, v :: vs, u :: us, h1, h2, h3, h4 => by
    simp only [eqDs, Bool.and_eq_true, List.cons.injEq, fits_val h1.1 h2.1 h3.1 h4.1, fits_vals h1.2 h2.2 h3.2 h4.2]
  | [], _ :: _, _, _, _, h, _, _, _ => h.elim
  | _ :: _, [], _, _, _, h, _, _, _ => h.elim
  | [], [], _ :: _, _, _, _, h, _, _ => h.elim
  | _ :: _, _ :: _, [], _, _, _, h, _, _ => h.elim
  | [], [], [], _ :: _, _, _, _, h, _ => h.elim
  | _ :: _, _ :: _, _ :: _, [], _, _, _, h, _ => h.elim
  | [], [], [], [], _ :: _, _, _, _, h => h.elim
  | _ :: _, _ :: _, _ :: _, _ :: _, [], _, _, _, h => h.elim
def findK (kd : List D) : List (List D × List D) → Nat → Option (Nat × List D)
  | [], _ => none
  | (k, v) :: r, i => bif eqDs kd k then some (i, v) else findK kd r (i + 1)
theorem repD_agg {ds : List D} {v : Value} (h : RepD σ true ds v) : ∃ vs : List Value, v = .agg vs.toArray ∧ All2 (Rep σ) ds vs := h
theorem repD_one {ds : List D} {v : Value} (h : RepD σ false ds v) : ∃ d, ds = [d] ∧ Rep σ d v := by
  match ds, h with
  | [d], h => exact ⟨d, rfl, h.1⟩
  | [], h => exact h.elim
  | _ :: _ :: _, h => exact h.2.elim
theorem findAsking_run {t : TypeId} {ks : List KK} (hE : EOk P t ks) {vg : Bool} {kd : List D} {kv : Value} (hk : RepD σ true kd kv) (hf : All2 fitsK ks kd) (w : World) :
    ∀ {es : List (List D × List D)} {ents : List MapEntry} {i n : Nat}, RepE σ true vg n es ents → (∀ p ∈ es, All2 fitsK ks p.1) →
      (findK kd es i = none ∧ (Instr.findAsking t kv ents i).run P w = .ok none w) ∨ ∃ j e vd, findK kd es i = some (i + j, vd) ∧ (Instr.findAsking t kv ents i).run P w = .ok (some (i + j, e.val)) w ∧ ents[j]? = some e ∧ RepD σ vg vd e.val
  | [], [], i, n, _, _ => .inl ⟨rfl, by simp [Instr.findAsking]⟩
  | p :: es, e :: ents, i, n, h, hall => by
    obtain ⟨h1, h2, h3, h4⟩ := h
    obtain ⟨kvs, rfl, hkr⟩ := repD_agg hk
    obtain ⟨evs, hev, her⟩ := repD_agg h1
    have heq := equal_run hE hkr her hf (hall p List.mem_cons_self) w
    have heq' : (Op.equal t (.agg kvs.toArray) e.key).run P w = .ok (eqDs kd p.1) w := by
      rw [hev]; exact heq
    cases hb : eqDs kd p.1 with
    | true =>
      refine .inr ⟨0, e, p.2, ?_, ?_, rfl, h2⟩
      · simp only [findK, hb, cond_true, Nat.add_zero]
      · rw [hb] at heq'
        simp [Instr.findAsking, heq']
    | false =>
      rw [hb] at heq'
      rcases findAsking_run hE hk hf w (i := i + 1) h4 (fun q hq => hall q (List.mem_cons_of_mem _ hq)) with ⟨h5, h6⟩ | ⟨j, e', vd, h5, h6, h7, h8⟩
      · refine .inl ⟨?_, ?_⟩
        · simp only [findK, hb, cond_false]; exact h5
        · simp [Instr.findAsking, heq', h6]
      · refine .inr ⟨j + 1, e', vd, ?_, ?_, by simpa using h7, h8⟩
        · simp only [findK, hb, cond_false]; rw [h5, show i + 1 + j = i + (j + 1) by omega]
        · simp [Instr.findAsking, heq', h6]; omega
  | [], _ :: _, _, _, h, _ => h.elim
  | _ :: _, [], _, _, h, _ => h.elim
end Go.Abs
namespace Go.Abs
open Go
variable {P : Program} {c : Ctx} {T : Tab} {σ : Sig} {φ : Pl} {w : World}
def kindK : KK → TypeDesc
  | .int k => .int k
  | .bool => .bool
  | .str => .string
theorem sameNow_run {k : KK} {d e : D} {v u : Value} (hd : fitsK k d) (he : fitsK k e) (hv : Rep σ d v) (hu : Rep σ e u) : Instr.sameNow (kindK k) v u = some (eqD d e) := by
  cases k <;> cases d <;> simp only [fitsK] at hd <;> cases e <;> simp only [fitsK] at he <;> cases hv <;> cases hu
  · subst hd; subst he; simp [kindK, Instr.sameNow, eqD]
  · simp [kindK, Instr.sameNow, eqD]
  · rename_i s s' _ _
    simp only [kindK, Instr.sameNow, eqD, Option.some.injEq]
    have h1 : (((⟨s.toArray⟩ : ByteArray) == ⟨s'.toArray⟩) = true) ↔ ((s == s') = true) := by
      rw [MapKept.bytes_beq]; simp
    exact Bool.eq_iff_iff.2 h1
theorem findNow_run {k : KK} {vg : Bool} {d : D} {kv : Value} (hk : Rep σ d kv) (hf : fitsK k d) :
    ∀ {es : List (List D × List D)} {ents : List MapEntry} {i n : Nat}, RepE σ false vg n es ents → (∀ p ∈ es, All2 fitsK [k] p.1) →
      (findK [d] es i = none ∧ Instr.findNow (kindK k) kv ents i = some none) ∨ ∃ j e vd, findK [d] es i = some (i + j, vd) ∧ Instr.findNow (kindK k) kv ents i = some (some (i + j, e.val)) ∧ ents[j]? = some e ∧ RepD σ vg vd e.val
  | [], [], i, n, _, _ => .inl ⟨rfl, rfl⟩
  | p :: es, e :: ents, i, n, h, hall => by
    obtain ⟨h1, h2, h3, h4⟩ := h
    obtain ⟨d', hd', her⟩ := repD_one h1
    have hp := hall p List.mem_cons_self
    rw [hd'] at hp
    have heq := sameNow_run hf hp.1 hk her
    have hcmp : eqDs [d] p.1 = eqD d d' := by rw [hd']; simp [eqDs]
    cases hb : eqD d d' with
    | true =>
      refine .inr ⟨0, e, p.2, ?_, ?_, rfl, h2⟩
      · simp only [findK, hcmp, hb, cond_true, Nat.add_zero]
      · rw [hb] at heq
        simp only [Instr.findNow, heq, Nat.add_zero]
    | false =>
      rw [hb] at heq
      rcases findNow_run hk hf (i := i + 1) h4 (fun q hq => hall q (List.mem_cons_of_mem _ hq)) with ⟨h5, h6⟩ | ⟨j, e', vd, h5, h6, h7, h8⟩
      · refine .inl ⟨?_, ?_⟩
        · simp only [findK, hcmp, hb, cond_false]; exact h5
        · simp only [Instr.findNow, heq]; exact h6
      · refine .inr ⟨j + 1, e', vd, ?_, ?_, by simpa using h7, h8⟩
        · simp only [findK, hcmp, hb, cond_false]; rw [h5, show i + 1 + j = i + (j + 1) by omega]
        · simp only [Instr.findNow, heq]; rw [h6, show i + 1 + j = i + (j + 1) by omega]
  | [], _ :: _, _, _, h, _ => h.elim
  | _ :: _, [], _, _, h, _ => h.elim
end Go.Abs
namespace Go.Abs
open Go
variable {P : Program} {c : Ctx} {T : Tab} {σ : Sig} {φ : Pl} {w : World}
def KeyOk (P : Program) (t : TypeId) (kg : Bool) (ks : List KK) : Prop :=
  shapeP P 6 t = some ks ∧ P.keyTypeAt 6 t = true ∧ isAggU P t = kg ∧ P.eqGuardType P.depth t = false ∧ (kg = false → ∃ k, ks = [k] ∧ P.underlying t = some (kindK k))
theorem KeyOk.eok {t : TypeId} {ks : List KK} (h : KeyOk P t true ks) : EOk P t ks := ⟨h.1, h.2.1, h.2.2.1, h.2.2.2.1⟩
theorem repD_fits {g : Bool} {ds : List D} {v : Value} (h : RepD σ g ds v) : All2 (Rep σ) ds v.cells.toList := by
  cases g with
  | true =>
    obtain ⟨vs, rfl, h1⟩ := repD_agg h
    simpa [Value.cells] using h1
  | false =>
    obtain ⟨d, rfl, h1⟩ := repD_one h
    have h2 := h1.oneCell
    have : v.cells.toList = [v] := by
      cases v <;> first | rfl | simp [Value.oneCell] at h2
    rw [this]
    exact ⟨h1, trivial⟩
theorem checkKey_run {t : TypeId} {kg : Bool} {ks : List KK} (h : KeyOk P t kg ks) {kd : List D} {kv : Value} (hk : RepD σ kg kd kv) (hf : All2 fitsK ks kd) (em : Bool) (w : World) : (Instr.checkKey em 10000 t kv).run P w = .ok () w := by
  obtain ⟨h1, h2, h3, _⟩ := h
  refine run_checkKey_deep em 9994 6 t h2 w 6 kv _ ?_ (keyLits_shape 6 h1 (repD_fits hk) hf)
  cases kg with
  | true =>
    obtain ⟨vs, rfl, hr⟩ := repD_agg hk
    have l1 := hr.length
    have l2 := hf.length
    have hs := shapeP_len 6 h1
    unfold isAggU at h3
    unfold Value.formed
    split at h3 <;> simp_all
  | false =>
    obtain ⟨d, rfl, hr⟩ := repD_one hk
    unfold isAggU at h3
    match ks, hf with
    | [k], hf =>
      have hk1 := hf.1
      cases k <;> cases d <;> simp only [fitsK] at hk1 <;> cases hr <;> simp only [Value.formed] <;> (split <;> simp_all)
theorem findKey_run {t : TypeId} {kg vg : Bool} {ks : List KK} (h : KeyOk P t kg ks) {kd : List D} {kv : Value} (hk : RepD σ kg kd kv) (hf : All2 fitsK ks kd) (w : World) {es : List (List D × List D)} {ents : List MapEntry} {n : Nat}
    (hr : RepE σ kg vg n es ents) (hall : ∀ p ∈ es, All2 fitsK ks p.1) :
    (findK kd es 0 = none ∧ (Instr.findKey t kv ents).run P w = .ok none w) ∨ ∃ j e vd, findK kd es 0 = some (j, vd) ∧ (Instr.findKey t kv ents).run P w = .ok (some (j, e.val)) w ∧ ents[j]? = some e ∧ RepD σ vg vd e.val := by
  cases kg with
  | false =>
    obtain ⟨k, rfl, hu⟩ := h.2.2.2.2 rfl
    obtain ⟨d, rfl, hkr⟩ := repD_one hk
    rcases findNow_run hkr hf.1 (i := 0) hr hall with ⟨h1, h2⟩ | ⟨j, e, vd, h1, h2, h3, h4⟩
    · exact .inl ⟨h1, by simp [Instr.findKey, run_underlying hu, h2]⟩
    · rw [Nat.zero_add] at h1 h2
      exact .inr ⟨j, e, vd, h1, by simp [Instr.findKey, run_underlying hu, h2], h3, h4⟩
  | true =>
    have hE := h.eok
    have hu : ∃ u, P.underlying t = some u ∧ descAgg u = true := by
      have := hE.agg
      unfold isAggU at this
      split at this <;> (try (simp at this; done)) <;> exact ⟨_, by assumption, rfl⟩
    obtain ⟨u, hu, hua⟩ := hu
    have hnow : Instr.findNow u kv ents 0 = some none ∧ ents = [] ∨ Instr.findNow u kv ents 0 = none := by
      cases ents with
      | nil => exact .inl ⟨rfl, rfl⟩
      | cons e r =>
        refine .inr ?_
        have : Instr.sameNow u kv e.key = none := by cases u <;> simp [descAgg] at hua <;> rfl
        simp only [Instr.findNow, this]
    rcases findAsking_run hE hk hf w (i := 0) hr hall with ⟨h1, h2⟩ | ⟨j, e, vd, h1, h2, h3, h4⟩
    · refine .inl ⟨h1, ?_⟩
      rcases hnow with ⟨hn, _⟩ | hn
      · simp [Instr.findKey, run_underlying hu, hn]
      · simp [Instr.findKey, run_underlying hu, hn, h2]
    · rw [Nat.zero_add] at h1 h2
      refine .inr ⟨j, e, vd, h1, ?_, h3, h4⟩
      rcases hnow with ⟨_, rfl⟩ | hn
      · simp at h3
      · simp [Instr.findKey, run_underlying hu, hn, h2]
end Go.Abs
namespace Go.Abs
open Go
variable {P : Program} {c : Ctx} {T : Tab} {σ : Sig} {φ : Pl} {w : World}
theorem okops_makeMap {ops : Array Oper} {o : Oper} {rest : List Oper} {st : St} {K : St → Prop} {d id : Nat} {t : TypeId} (kg vg : Bool) (ho : o.op = .makeMap t none) (hg : o.guard = none) (hdst : o.dst = some d) (hd : (Nat.blt d c.n && Nat.blt id 1000000) = true)
    (hm1 : frMen id st.fr = false) (hm2 : stoMen id st.sto = false)
    (h : OkOps P c ops rest ⟨(d, .one (.mapr id)) :: st.fr, (id, .map kg vg []) :: st.sto⟩ K) : OkOps P c ops (o :: rest) st K :=
  okops_run hg fun a w σ φ hr => by
    have hobj : ObjRep σ (updP φ id (some (w.heap.size, 0))) ((id, .map kg vg []) :: st.sto) (w.alloc (.map #[] 0)) id (.map kg vg []) :=
      ⟨w.heap.size, 0, [], updP_self, alloc_heap_new w _, trivial, sig_new hr.inv⟩
    refine ⟨.map (some w.heap.size), w.alloc (.map #[] 0), _, σ, updP φ id (some (w.heap.size, 0)), ?_, ?_, h⟩
    · simp [execOp, ho, Instr.makeMap]
    rw [hdst]
    simp only [Bool.and_eq_true] at hd
    have hd' : dstOk c.n (some d) = true := hd.1
    refine hr.putTo (dst := some d) (st' := ⟨st.fr, (id, .map kg vg []) :: st.sto⟩) hd' hr.le hr.fresh (hr.inv.add hm2 hobj) ?_ (hr.fra.alloc _) (fun i hi => by
      have : i ≠ id := by have := Nat.le_of_ble_eq_true hd.2; omega
      rw [updP_ne this]; exact hr.pin i hi) (fun _ => RepC.mapr (cap := 0) look_self updP_self) ?_
    · intro i e p hi hp
      rcases look_cons hi with ⟨rfl, rfl⟩ | ⟨hne, hi⟩
      · rw [updP_self] at hp; cases hp; exact .inl hr.fra.size
      · rw [updP_ne hne] at hp; exact hr.mine _ _ _ hi hp
    · intro s x _ hx
      exact ⟨x, hx, fun z hz => hz.ext (Sig.le_refl _) Ext.add fun j hj => by cases hj; exact frMen_look hm1 hx⟩
def outV (g : Bool) (ds : List D) : Option (Bool × List AC) := match g, ds with
  | true, ds => some (true, ds.map .d)
  | false, [d] => some (false, [.d d])
  | _, _ => none
theorem outV_rep {g : Bool} {ds : List D} {v : Value} {p : Bool × List AC} {sto : Sto} (h : outV g ds = some p) (hr : RepD σ g ds v) : RepT σ φ sto p v := by
  unfold outV at h
  split at h <;> simp at h <;> subst h
  · obtain ⟨vs, rfl, h1⟩ := repD_agg hr
    refine ⟨vs, rfl, ?_⟩
    have : ∀ {ds : List D} {vs : List Value}, All2 (Rep σ) ds vs → All2 (RepC σ φ sto) (ds.map .d) vs := by
      intro ds
      induction ds with
      | nil => intro vs h; cases vs with
        | nil => trivial
        | cons _ _ => exact h.elim
      | cons d ds ih => intro vs h; cases vs with
        | nil => exact h.elim
        | cons v vs => exact ⟨.d h.1, ih h.2⟩
    exact this h1
  · obtain ⟨d, e, h1⟩ := repD_one hr
    cases e
    exact ⟨.d h1, trivial⟩
end Go.Abs
namespace Go.Abs
open Go
variable {P : Program} {c : Ctx} {T : Tab} {σ : Sig} {φ : Pl} {w : World}
structure MTy where
  kt : TypeId
  et : TypeId
  kg : Bool
  ks : List KK
  vg : Bool
  z : List D
structure MOk (P : Program) (t : TypeId) (m : MTy) : Prop where
  und : P.underlying t = some (.map m.kt m.et)
  key : KeyOk P m.kt m.kg m.ks
  zero : ∃ (i : TypeInfo) (zv : Value), P.info? m.et = some i ∧ i.zero = some zv ∧ (∀ σ : Sig, RepD σ m.vg m.z zv)
def dataOf (g : Bool) : AV → Option (List D)
  | .one (.d d) => bif g then none else some [d]
  | .agg cs => bif g then allD cs else none
  | _ => none
theorem dataOf_rep {g : Bool} {v : AV} {ds : List D} {sto : Sto} (h : dataOf g v = some ds) {u : Value} (hr : RepV σ φ sto v u) : RepD σ g ds u := by
  unfold dataOf at h
  split at h
  · cases g <;> simp at h
    subst h
    exact ⟨RepC.d_inv hr, trivial⟩
  · cases g <;> simp only [cond_true, cond_false, reduceCtorEq] at h
    obtain rfl := allD_eq h
    obtain ⟨vs, rfl, h1⟩ := hr
    exact ⟨vs, rfl, acs_d h1⟩
  · simp at h
def fitsAll (ks : List KK) : List (List D × List D) → Bool
  | [] => true
  | p :: r => fitsB ks p.1 && fitsAll ks r
theorem fitsAll_ok {ks : List KK} : ∀ {es : List (List D × List D)}, fitsAll ks es = true → ∀ p ∈ es, All2 fitsK ks p.1
  | [], _, p, h => by simp at h
  | q :: r, h, p, hp => by
    simp only [fitsAll, Bool.and_eq_true] at h
    rcases List.mem_cons.1 hp with rfl | hp
    · exact fitsB_ok h.1
    · exact fitsAll_ok h.2 p hp
def avOf : Bool × List AC → AV
  | (true, cs) => .agg cs
  | (false, c :: _) => .one c
  | (false, []) => .any
def outA (g : Bool) (ds : List D) (b ok : Bool) : Option AV :=
  match outV g ds with
  | none => none
  | some p => some (bif ok then .tup [p, (false, [.d (.bool b)])] else avOf p)
def lookF (m : MTy) (es : List (List D × List D)) (kd : List D) (ok : Bool) : Option AV :=
  match findK kd es 0 with
  | some (_, vd) => outA m.vg vd true ok
  | none => outA m.vg m.z false ok
theorem outA_rep {g b ok : Bool} {ds : List D} {v : AV} {sto : Sto} (h : outA g ds b ok = some v) {u : Value} (hr : RepD σ g ds u) :
    RepV σ φ sto v (if ok then .tuple #[u, .bool b] else u) := by
  unfold outA at h
  split at h <;> simp at h
  rename_i p hp
  subst h
  have h1 : RepT σ φ sto p u := outV_rep hp hr
  cases ok with
  | true => exact ⟨[u, .bool b], rfl, h1, ⟨RepC.d .bool, trivial⟩, trivial⟩
  | false =>
    simp only [cond_false, Bool.false_eq_true, if_false]
    obtain ⟨g', cs⟩ := p
    cases g' with
    | true => exact h1
    | false =>
      match cs, h1 with
      | [c], h1 => exact h1.1
      | [], h1 => exact h1.elim
      | _ :: _ :: _, h1 => exact h1.2.elim
theorem map_obj {st : St} {a : Act} (hr : Rel c st a w σ φ) {x : Operand} {id : Nat} {kg vg : Bool} {es : List (List D × List D)} (hx : ev st x = some (.one (.mapr id))) (hl : look st.sto id = some (.map kg vg es)) :
    ∃ (B cap : Nat) (ents : List MapEntry), a.eval x = .map (some B) ∧ φ id = some (B, cap) ∧ w.heap[B]? = some (.map ents.toArray es.length) ∧ RepE σ kg vg 0 es ents ∧ σ B = none := by
  have h1 : RepC σ φ st.sto (.mapr id) (a.eval x) := ev_rep hr hx
  generalize hux : a.eval x = ux at h1
  cases h1 with
  | dead hxx _ => simp [acIn, hasK_of hl] at hxx
  | mapr hl' hp =>
    rename_i B cap kg' vg' es'
    rw [hl] at hl'; cases hl'
    obtain ⟨B', c', ents, hp', hh, he, hσ⟩ := hr.inv.obj _ _ hl
    rw [hp] at hp'; cases hp'
    exact ⟨B, cap, ents, rfl, hp, hh, he, hσ⟩
theorem okops_lookup {ops : Array Oper} {o : Oper} {rest : List Oper} {st : St} {K : St → Prop} {t : TypeId} {m : MTy} {x y : Operand} {ok : Bool} {id : Nat} {es : List (List D × List D)} {ky v : AV} {kd : List D} (hM : MOk P t m)
    (ho : o.op = .lookup t x y ok) (hg : o.guard = none) (hd : dstOk c.n o.dst = true) (hx : ev st x = some (.one (.mapr id))) (hl : look st.sto id = some (.map m.kg m.vg es))
    (hy : ev st y = some ky) (hk : dataOf m.kg ky = some kd) (hf : fitsB m.ks kd = true) (hall : fitsAll m.ks es = true) (hv : lookF m es kd ok = some v)
    (h : OkOps P c ops rest ⟨putO o.dst v st.fr, st.sto⟩ K) : OkOps P c ops (o :: rest) st K :=
  okops_run hg fun a w σ φ hr => by
    obtain ⟨B, cap, ents, hux, hp, hh, he, hσ⟩ := map_obj hr hx hl
    have hkr := dataOf_rep hk (ev_rep hr hy)
    have hchk := fun em => checkKey_run hM.key hkr (fitsB_ok hf) em w
    have hget := MapKept.run_getObj_map (P := P) hh
    obtain ⟨i, zv, hi, hz, hzr⟩ := hM.zero
    have hfin : ∃ u, (execOp a.eval o).run P w = .ok (.value u) w ∧ RepV σ φ st.sto v u := by
      rcases findKey_run hM.key hkr (fitsB_ok hf) w he (fitsAll_ok hall) with ⟨h1, h2⟩ | ⟨j, e, vd, h1, h2, h3, h4⟩
      · simp only [lookF, h1] at hv
        refine ⟨_, ?_, outA_rep hv (hzr σ)⟩
        simp only [execOp, ho, hux, Instr.lookup, Sem.run_bind, run_underlying hM.und, Result.andThen_ok, hget, Sem.run_pure, hchk, h2, run_zeroValue hi hz]
      · simp only [lookF, h1] at hv
        refine ⟨_, ?_, outA_rep hv h4⟩
        simp only [execOp, ho, hux, Instr.lookup, Sem.run_bind, run_underlying hM.und, Result.andThen_ok, hget, Sem.run_pure, hchk, h2]
    obtain ⟨u, hrun, hru⟩ := hfin
    exact ⟨u, w, _, σ, φ, hrun, hr.put hd hru, h⟩
def updK (kd vd : List D) : List (List D × List D) → List (List D × List D)
  | [] => [(kd, vd)]
  | p :: r => bif eqDs kd p.1 then (p.1, vd) :: r else p :: updK kd vd r
theorem repD_eq {g : Bool} {ks : List KK} {ds es : List D} {v u : Value} (hf : All2 fitsK ks ds) (he : All2 fitsK ks es) (hv : RepD σ g ds v) (hu : RepD σ g es u) (h : eqDs ds es = true) : v = u := by
  cases g with
  | true =>
    obtain ⟨vs, rfl, h1⟩ := repD_agg hv
    obtain ⟨us, rfl, h2⟩ := repD_agg hu
    rw [(fits_vals hf he h1 h2).1 h]
  | false =>
    obtain ⟨d, rfl, h1⟩ := repD_one hv
    obtain ⟨e, rfl, h2⟩ := repD_one hu
    match ks, hf, he with
    | [k], hf, he =>
      simp only [eqDs, Bool.and_true] at h
      exact (fits_val hf.1 he.1 h1 h2).1 h
theorem sameBits_one {k : KK} {d : D} {v : Value} (n : Nat) (hf : fitsK k d) (hv : Rep σ d v) : Instr.sameBits n v v = true := by
  cases k <;> cases d <;> simp only [fitsK] at hf <;> cases hv <;> cases n <;> simp [Instr.sameBits, MapKept.bytes_beq]
theorem sameBits_list {ks : List KK} (n : Nat) : ∀ {ds : List D} {vs : List Value}, All2 fitsK ks ds → All2 (Rep σ) ds vs → ((vs.zip vs).all fun (x, y) => Instr.sameBits n x y) = true := by
  induction ks with
  | nil =>
    intro ds vs h1 h2
    match ds, vs, h1, h2 with
    | [], [], _, _ => rfl
  | cons k ks ih =>
    intro ds vs h1 h2
    match ds, vs, h1, h2 with
    | d :: ds, v :: vs, h1, h2 =>
      simp only [List.zip_cons_cons, List.all_cons, sameBits_one n h1.1 h2.1, Bool.true_and]
      exact ih h1.2 h2.2
theorem sameBits_self {g : Bool} {ks : List KK} {ds : List D} {v : Value} (hf : All2 fitsK ks ds) (hv : RepD σ g ds v) : Instr.sameBits 10000 v v = true := by
  cases g with
  | true =>
    obtain ⟨vs, rfl, h1⟩ := repD_agg hv
    simp only [Instr.sameBits, beq_self_eq_true, Bool.true_and]
    exact sameBits_list 9999 hf h1
  | false =>
    obtain ⟨d, rfl, h1⟩ := repD_one hv
    match ks, hf with
    | [k], hf => exact sameBits_one _ hf.1 h1
theorem repE_none {kg vg : Bool} {kd vd : List D} {kv vv : Value} (hk : RepD σ kg kd kv) (hv : RepD σ vg vd vv) : ∀ {n i : Nat} {es : List (List D × List D)} {ents : List MapEntry}, RepE σ kg vg n es ents → findK kd es i = none →
    RepE σ kg vg n (updK kd vd es) (ents ++ [{ key := kv, val := vv, born := n + es.length }])
  | _, _, [], [], _, _ => ⟨hk, hv, by simp, trivial⟩
  | n, i, p :: es, e :: ents, h, hf => by
    simp only [findK] at hf
    cases hb : eqDs kd p.1 with
    | true => simp [hb] at hf
    | false =>
      simp only [hb, cond_false] at hf
      have ih := repE_none hk hv (n := n + 1) h.2.2.2 hf
      simp only [updK, hb, cond_false, List.cons_append, List.length_cons]
      rw [show n + (es.length + 1) = n + 1 + es.length by omega]
      exact ⟨h.1, h.2.1, h.2.2.1, ih⟩
  | _, _, [], _ :: _, h, _ => h.elim
  | _, _, _ :: _, [], h, _ => h.elim
theorem findK_ge {kd : List D} : ∀ {es : List (List D × List D)} {i p : Nat} {v : List D}, findK kd es i = some (p, v) → i ≤ p
  | [], _, _, _, h => by simp [findK] at h
  | q :: r, i, p, v, h => by
    simp only [findK] at h
    cases hb : eqDs kd q.1 with
    | true => simp [hb] at h; omega
    | false => simp only [hb, cond_false] at h; have := findK_ge h; omega
theorem repE_some {kg vg : Bool} {ks : List KK} {kd vd : List D} {kv vv : Value} (hfk : All2 fitsK ks kd) (hk : RepD σ kg kd kv) (hv : RepD σ vg vd vv) : ∀ {n i j : Nat} {es : List (List D × List D)} {ents : List MapEntry} {v0 : List D}, RepE σ kg vg n es ents →
    (∀ p ∈ es, All2 fitsK ks p.1) → findK kd es i = some (i + j, v0) → ∃ e, ents[j]? = some e ∧ e.key = kv ∧ RepE σ kg vg n (updK kd vd es) (ents.modify j fun e => { e with key := kv, val := vv })
  | _, _, _, [], [], _, _, _, hf => by simp [findK] at hf
  | n, i, j, p :: es, e :: ents, v0, h, hall, hf => by
    simp only [findK] at hf
    cases hb : eqDs kd p.1 with
    | true =>
      simp only [hb, cond_true, Option.some.injEq, Prod.mk.injEq] at hf
      obtain rfl : j = 0 := by omega
      have hke := repD_eq hfk (hall p List.mem_cons_self) hk h.1 hb
      refine ⟨e, rfl, hke.symm, ?_⟩
      simp only [updK, hb, cond_true, List.modify_zero_cons]
      exact ⟨by rw [hke]; exact h.1, hv, h.2.2.1, h.2.2.2⟩
    | false =>
      simp only [hb, cond_false] at hf
      have hge := findK_ge hf
      obtain ⟨j, rfl⟩ : ∃ j', j = j' + 1 := ⟨j - 1, by omega⟩
      obtain ⟨e', h1, h2, h3⟩ := repE_some hfk hk hv (n := n + 1) (i := i + 1) (j := j) h.2.2.2 (fun q hq => hall q (List.mem_cons_of_mem _ hq)) (by rw [hf]; congr 2; omega)
      refine ⟨e', by simpa using h1, h2, ?_⟩
      simp only [updK, hb, cond_false, List.modify_succ_cons]
      exact ⟨h.1, h.2.1, h.2.2.1, h3⟩
  | _, _, _, [], _ :: _, _, h, _, _ => h.elim
  | _, _, _, _ :: _, [], _, h, _, _ => h.elim
theorem updK_len {kd vd : List D} : ∀ {es : List (List D × List D)} {i : Nat}, (findK kd es i = none → (updK kd vd es).length = es.length + 1) ∧ (findK kd es i ≠ none → (updK kd vd es).length = es.length)
  | [], i => by simp [findK, updK]
  | p :: r, i => by
    have ih := updK_len (kd := kd) (vd := vd) (es := r) (i := i + 1)
    simp only [findK, updK]
    cases hb : eqDs kd p.1 with
    | true => simp
    | false =>
      simp only [cond_false, List.length_cons]
      exact ⟨fun h => by rw [ih.1 h], fun h => by rw [ih.2 h]⟩
theorem Rel.writeO {st : St} {a : Act} {w' : World} (h : Rel c st a w σ φ) {id B cap : Nat} {o o' : AObj} (hl : look st.sto id = some o) (hp : φ id = some (B, cap))
    (hw : ∀ b, b ≠ B → w'.heap[b]? = w.heap[b]?) (hsz : w.heap.size ≤ w'.heap.size ∧ w.drawn ≤ w'.drawn) (hos : w'.os = w.os) (htape : w'.tape = w.tape) (hout : w'.output = w.output)
    (hc : compat o o') (hobj : ObjRep σ φ ((id, o') :: st.sto) w' id o') :
    ∃ σ' φ', Rel c ⟨st.fr, setS id o' st.sto⟩ a w' σ' φ' := by
  have hE : Ext (fun _ => False) φ φ st.sto ((id, o') :: st.sto) := Ext.upd hl hc
  have hm := h.mine _ _ _ hl hp
  have h1 : Rel c ⟨st.fr, (id, o') :: st.sto⟩ a w' σ φ := by
    refine ⟨h.le, h.fresh, h.inv.set hl hp ((h.inv.obj _ _ hl).sig hp) hw hc hobj, fun i e p hi hpi => ?_, fun s v hv => ?_, h.defers, h.size, ?_, h.pin⟩
    · rcases look_cons hi with ⟨rfl, rfl⟩ | ⟨_, hi⟩
      · rw [hp] at hpi; cases hpi; exact hm
      · exact h.mine _ _ _ hi hpi
    · obtain ⟨u, hu, hru⟩ := h.slot s v hv
      exact ⟨u, hu, hru.ext (Sig.le_refl _) hE fun j hj => by cases hj⟩
    · refine ⟨hos.trans h.fra.os, htape.trans h.fra.tape, hout.trans h.fra.output, Nat.le_trans h.fra.size hsz.1, Nat.le_trans h.fra.drawn hsz.2, fun b hb hM => ?_⟩
      have : b ≠ B := by
        rintro rfl
        rcases hm with hm | hm
        · simp only at hm; omega
        · exact hM hm
      rw [hw b this]
      exact h.fra.block b hb hM
  exact imp_sto (fun i => look_setS) a _ σ φ h1
theorem okops_mapUpdate {ops : Array Oper} {o : Oper} {rest : List Oper} {st : St} {K : St → Prop} {t : TypeId} {m : MTy} {x y z : Operand} {id : Nat} {es : List (List D × List D)} {ky vl : AV} {kd vd : List D} (hM : MOk P t m)
    (ho : o.op = .mapUpdate t x y z) (hg : o.guard = none) (hdst : o.dst = none) (hx : ev st x = some (.one (.mapr id))) (hl : look st.sto id = some (.map m.kg m.vg es))
    (hy : ev st y = some ky) (hk : dataOf m.kg ky = some kd) (hf : fitsB m.ks kd = true) (hall : fitsAll m.ks es = true) (hz : ev st z = some vl) (hv : dataOf m.vg vl = some vd)
    (h : OkOps P c ops rest ⟨st.fr, setS id (.map m.kg m.vg (updK kd vd es)) st.sto⟩ K) : OkOps P c ops (o :: rest) st K := by
  refine okops_skip hg fun a w σ φ hr => ?_
  obtain ⟨B, cap, ents, hux, hp, hh, he, hσ⟩ := map_obj hr hx hl
  have hkr := dataOf_rep hk (ev_rep hr hy)
  have hvr := dataOf_rep hv (ev_rep hr hz)
  have hchk := fun em => checkKey_run hM.key hkr (fitsB_ok hf) em w
  have hget := MapKept.run_getObj_map (P := P) hh
  have hset := fun o => MapKept.run_setObj_map (P := P) o hh
  have hlt : B < w.heap.size := (Array.getElem?_eq_some_iff.1 hh).1
  have fin : ∀ (ents' : List MapEntry), RepE σ m.kg m.vg 0 (updK kd vd es) ents' →
      ∃ σ' φ', Rel c ⟨st.fr, setS id (.map m.kg m.vg (updK kd vd es)) st.sto⟩ a { w with heap := w.heap.setIfInBounds B (.map ents'.toArray (updK kd vd es).length) } σ' φ' := by
    intro ents' he'
    refine hr.writeO (o' := .map m.kg m.vg (updK kd vd es)) hl hp (fun b hb => ?_) (by simp) rfl rfl rfl ⟨rfl, rfl⟩ ⟨B, cap, ents', hp, ?_, he', hσ⟩
    · simp [Array.getElem?_setIfInBounds_ne (fun e => hb e.symm)]
    · simp [hlt]
  rcases findKey_run hM.key hkr (fitsB_ok hf) w he (fitsAll_ok hall) with ⟨h1, h2⟩ | ⟨j, e, vd0, h1, h2, h3, h4⟩
  · have he' := repE_none hkr hvr he h1
    rw [Nat.zero_add] at he'
    obtain ⟨σ', φ', hr'⟩ := fin _ he'
    refine ⟨_, _, σ', φ', ?_, by rw [hdst]; exact hr', h⟩
    have hlen := (updK_len (kd := kd) (vd := vd) (es := es) (i := 0)).1 h1
    simp only [execOp, ho, hux, Instr.mapUpdate, Sem.run_bind, run_underlying hM.und, Result.andThen_ok, hget, Sem.run_pure, hchk, h2, hset, hlen, List.push_toArray]
  · obtain ⟨e', h5, h6, h7⟩ := repE_some (fitsB_ok hf) hkr hvr (i := 0) (j := j) he (fitsAll_ok hall) (by rw [Nat.zero_add]; exact h1)
    rw [h3] at h5; cases h5
    obtain ⟨σ', φ', hr'⟩ := fin _ h7
    refine ⟨_, _, σ', φ', ?_, by rw [hdst]; exact hr', h⟩
    have hlen := (updK_len (kd := kd) (vd := vd) (es := es) (i := 0)).2 (by rw [h1]; simp)
    have hold : ((ents[j]?.map (·.key)).getD (a.eval y)) = a.eval y := by rw [h3]; simp [h6]
    have hks : (Instr.keyThatStays (a.eval y) (a.eval y)).run P w = .ok (a.eval y) w := by
      unfold Instr.keyThatStays
      simp [sameBits_self (fitsB_ok hf) hkr]
    simp only [execOp, ho, hux, Instr.mapUpdate, Sem.run_bind, run_underlying hM.und, Result.andThen_ok, hget, Sem.run_pure, hchk, h2, hset, hlen, List.getElem?_toArray, hold, hks, List.modify_toArray]
end Go.Abs
namespace Go.Abs
open Go
variable {P : Program} {c : Ctx} {T : Tab} {σ : Sig} {φ : Pl} {sto : Sto} {w : World}
structure YieldA (P : Program) (id : Nat) (args : List AV) (sto : Sto) (rav : AV) (rsto : Sto) : Prop where
  run : ∀ (w : World) (σ : Sig) (φ : Pl) (vs : List Value) (B cp : Nat), HInv σ φ sto w → φ id = some (B, cp) → All2 (RepV σ φ sto) args vs →
    ∃ fn tmps assign body, (Instr.yield B vs.toArray).run P w = .ok (.round B fn tmps assign body) w ∧
      RoundIn Fence.wide 0 P B fn tmps assign body w fun e w' => ∃ v σ' φ', e = .returned v ∧ RetP rav rsto w σ φ (MOf φ sto) v w' σ' φ'
theorem fnc_none {c : Ctx} (h : c.rd = none) : fnc c = Fence.wide := by
  unfold fnc; rw [h]; rfl
theorem run_yield {a : Act} {o : Oper} {fop : Operand} {args : Array Operand} {ats : Array TypeId} {B : Nat} {nx : Next} (ho : o.op = .call { callee := .value fop, args := args, argTypes := ats })
    (hf : a.eval fop = .func (.yield B) #[] #[]) (h : (Instr.yield B (args.toList.map a.eval).toArray).run P w = .ok nx w) : (execOp a.eval o).run P w = .ok nx w := by
  have e : (#[] ++ args.map a.eval) = (args.toList.map a.eval).toArray := by
    apply Array.ext'; simp
  simp only [execOp, ho, resolve, Deferred.ofValue, hf, invoke, Sem.run_bind, Sem.run_pure, Result.andThen_ok]
  rw [e, h]
theorem okops_yield {ops : Array Oper} {o : Oper} {rest : List Oper} {st : St} {K : St → Prop} {fop : Operand} {args : Array Operand} {ats : Array TypeId} {i jd : Nat} {cargs : List AV} {cs rs : Sto} {rav : AV} (k : Nat) (ρ : List (Nat × Nat))
    (hrd : c.rd = none) (ho : o.op = .call { callee := .value fop, args := args, argTypes := ats }) (hg : o.guard = none) (hd : dstOk c.n o.dst = true) (hf : ev st fop = some (.one (.yl i))) (hj : look ρ jd = some i)
    (ha : evL st args.toList = some (renL (rn k ρ) cargs)) (hY : YieldA P jd cargs cs rav rs) (hpass : Pass st (rn k ρ) ρ cs) (hcomp : CompatL st (rn k ρ) ρ rs)
    (hk : (bigK ρ && injK ρ && allIn cs ρ && keysNd ρ && keysOk ρ rs && avsIn cs cargs && stoIn cs cs && avIn rs rav && stoIn rs rs && Nat.ble (k + 16) 1000000) = true) (hfresh : FreshR k st)
    (h : OkOps P c ops rest ⟨putO o.dst (renV (rn k ρ) rav) st.fr, putR (rn k ρ) (delL ρ st.sto) rs⟩ K) : OkOps P c ops (o :: rest) st K := by
  intro a w σ φ Q hr hQ
  have hk' := hk
  simp only [Bool.and_eq_true, Nat.ble_eq] at hk'
  obtain ⟨⟨⟨⟨⟨⟨⟨⟨⟨hbig, hinj⟩, hall⟩, hnd⟩, hko⟩, hai⟩, hci⟩, hri⟩, hrs⟩, hkl⟩ := hk'
  obtain ⟨oj, hoj⟩ := hasK_look (allIn_look hall hj)
  obtain ⟨i', h1, h2⟩ := hpass.look hoj
  rw [hj] at h1; cases h1
  have hfr : RepC σ φ st.sto (.yl i) (a.eval fop) := ev_rep hr hf
  generalize hfe : a.eval fop = fv at hfr
  cases hfr with
  | dead hxx _ => simp [acIn, hasK_of h2] at hxx
  | yl hl hp =>
    rename_i B cap li fr s p
    obtain ⟨fn, tmps, assign, body, hy, hR⟩ := hY.run w σ (phC φ ρ) _ B cap (unHInv hbig hinj hpass hci hr.inv) ((phC_at hj).trans hp) (unL hbig hpass hai (evL_rep hr ha))
    refine wpListIn_plain hg fun K' hK => ⟨fun f _ => fnc_fn c f, ?_⟩
    rw [semAt_run (by simp) (run_yield ho hfe hy), Oper.uponIn_round, fnc_none hrd]
    refine ⟨fun h => by simp [Fence.wide] at h, hR.mono fun e w' he => ?_⟩
    obtain ⟨v, σ', φ', rfl, hret⟩ := he
    obtain ⟨σ2, φ2, h3, _⟩ := ret_rel k ρ hr hd hpass hcomp hk hfresh hret
    exact hK _ _ (h _ _ _ _ _ h3 hQ)
end Go.Abs
namespace Go.Abs
open Go
variable {P : Program} {c : Ctx} {T : Tab} {σ : Sig} {φ : Pl} {sto : Sto} {w : World}
def roundFr : List Nat → List AV → List (Nat × AV) → List (Nat × AV)
  | p :: ps, v :: vs, fr => roundFr ps vs ((p, v) :: fr)
  | _, _, fr => fr
def allBlt (n : Nat) : List Nat → Bool
  | [] => true
  | p :: r => Nat.blt p n && allBlt n r
theorem roundFr_slot : ∀ {ps : List Nat} {args : List AV} {fr : List (Nat × AV)} {vs : List Value} {tmps : Array Value}, allBlt tmps.size ps = true → All2 (RepV σ φ sto) args vs → ps.length = vs.length →
    (∀ s v, look fr s = some v → ∃ u, tmps[s]? = some u ∧ RepV σ φ sto v u) →
    ((ps.zip vs).foldl (fun (t : Array Value) (p : Nat × Value) => t.setIfInBounds p.1 p.2) tmps).size = tmps.size ∧
    ∀ s v, look (roundFr ps args fr) s = some v → ∃ u, ((ps.zip vs).foldl (fun (t : Array Value) (p : Nat × Value) => t.setIfInBounds p.1 p.2) tmps)[s]? = some u ∧ RepV σ φ sto v u
  | [], args, fr, vs, tmps, _, _, _, h => ⟨by simp, by
      intro s v hv
      have : roundFr [] args fr = fr := by cases args <;> rfl
      rw [this] at hv
      simpa using h s v hv⟩
  | p :: ps, a :: args, fr, v :: vs, tmps, hb, ha, hl, h => by
    simp only [allBlt, Bool.and_eq_true, Nat.blt_eq] at hb
    simp only [List.zip_cons_cons, List.foldl_cons, roundFr]
    have ih := roundFr_slot (ps := ps) (args := args) (fr := (p, a) :: fr) (vs := vs) (tmps := tmps.setIfInBounds p v) (by simpa using hb.2) ha.2 (by simpa using hl) (by
      intro s x hx
      rcases look_cons hx with ⟨rfl, rfl⟩ | ⟨hne, hx⟩
      · exact ⟨v, by simp [hb.1], ha.1⟩
      · obtain ⟨u, hu, hru⟩ := h s x hx
        exact ⟨u, by rw [Array.getElem?_setIfInBounds_ne (fun e => hne e.symm)]; exact hu, hru⟩)
    exact ⟨by rw [ih.1]; simp, ih.2⟩
  | _ :: _, [], _, _ :: _, _, _, ha, _, _ => ha.elim
  | _ :: _, _ :: _, _, [], _, _, ha, _, _ => ha.elim
  | _ :: _, [], _, [], _, _, _, hl, _ => by simp at hl
theorem zip_toArray_foldl {ps : Array Nat} {vs : List Value} {tmps : Array Value} :
    (ps.zip vs.toArray).foldl (fun (t : Array Value) (p : Nat × Value) => t.setIfInBounds p.1 p.2) tmps = (ps.toList.zip vs).foldl (fun (t : Array Value) (p : Nat × Value) => t.setIfInBounds p.1 p.2) tmps := by
  rw [← Array.foldl_toList, Array.toList_zip]
theorem Rel.retP {w : World} {σ : Sig} {φ : Pl} {sto : Sto} {n : Nat} {rd : Option Nat} {mk : List Deferred} {st' : St} {a' : Act} {w' : World} {σ' : Sig} {φ' : Pl} {rav : AV} {rsto : Sto} {u : Value}
    (hr : Rel ⟨w, σ, φ, MOf φ sto, n, rd, mk⟩ st' a' w' σ' φ') (hru : RepV σ' φ' st'.sto rav u) (hsub : SubL st'.sto rsto) : RetP rav rsto w σ φ (MOf φ sto) u w' σ' φ' :=
  ⟨hr.le, hr.fresh, ⟨hr.inv.sig, fun i e hi => (hr.inv.obj _ _ (hsub.look hi)).ext (X := fun _ => False) (Sig.le_refl _) (Ext.sub hsub) (fun j hj => hj.elim) rfl fun _ _ _ => ⟨rfl, rfl⟩,
    fun i i' e e' p p' hi hi' => hr.inv.inj _ _ _ _ _ _ (hsub.look hi) (hsub.look hi')⟩, hru.ext (Sig.le_refl _) (Ext.sub hsub) (fun j hj => hj.elim),
    fun i e p hi hp => hr.mine _ _ _ (hsub.look hi) hp, hr.pin, ⟨hr.fra.os, hr.fra.tape, hr.fra.output, hr.fra.size, hr.fra.drawn, hr.fra.block⟩⟩
def jumpOf : Exit → Option Code
  | .ret => some .ret
  | .exit id => some (.exit id)
  | _ => none
def RoundQ (id : Nat) (rav : AV) (rsto : Sto) (e : Exit) (st : St) : Prop :=
  ∃ li fr p, look st.sto id = some (.loop li fr .busy p) ∧
    ((e = .normal ∧ rav = .one (.d (.bool true)) ∧ SubL (setS id (.loop li fr .ready none) st.sto) rsto) ∨
     (∃ j, jumpOf e = some j ∧ rav = .one (.d (.bool false)) ∧ SubL (setS id (.loop li fr .done (some j)) st.sto) rsto))
theorem loop_obj {st : St} {a : Act} (hr : Rel c st a w σ φ) {id B cp : Nat} {li : LI} {fr : List (Nat × AV)} {s : LoopState} {p : Option Code} (hl : look st.sto id = some (.loop li fr s p)) (hp : φ id = some (B, cp)) :
    ∃ r : Loop, w.heap[B]? = some (.loop r) ∧ (r.state = s ∧ r.pending = p ∧ r.params = li.params ∧ r.assign = li.assign ∧ r.body = li.body ∧ r.tmps.size = li.n) := by
  obtain ⟨B', c', r, h1, h2, h3, _⟩ := hr.inv.obj _ _ hl
  rw [hp] at h1; cases h1
  exact ⟨r, h2, h3⟩
theorem Rel.mark {st : St} {a : Act} (hr : Rel c st a w σ φ) {id B cp : Nat} {li : LI} {fr : List (Nat × AV)} {s : LoopState} {p : Option Code} (hl : look st.sto id = some (.loop li fr s p)) (hp : φ id = some (B, cp))
    {r : Loop} (hh : w.heap[B]? = some (.loop r)) (s' : LoopState) (p' : Option Code) (r' : Loop) (hr' : r' = { r with state := s', pending := p' }) :
    ∃ σ' φ', Rel c ⟨st.fr, setS id (.loop li fr s' p') st.sto⟩ a { w with heap := w.heap.setIfInBounds B (.loop r') } σ' φ' := by
  subst hr'
  obtain ⟨B', c', r0, h1, h2, ⟨h3, h4, h6, h7, h8, h9⟩, h10, h11⟩ := hr.inv.obj _ _ hl
  rw [hp] at h1; cases h1
  rw [hh] at h2; cases h2
  have hlt : B < w.heap.size := (Array.getElem?_eq_some_iff.1 hh).1
  have hE : Ext (fun _ => False) φ φ st.sto ((id, .loop li fr s' p') :: st.sto) := Ext.upd hl trivial
  refine hr.writeO (o' := .loop li fr s' p') hl hp (fun b hb => ?_) (by simp) rfl rfl rfl trivial ⟨B, cp, { r with state := s', pending := p' }, hp, ?_, ⟨rfl, rfl, h6, h7, h8, h9⟩, fun s v hv => ?_, h11⟩
  · simp [Array.getElem?_setIfInBounds_ne (fun e => hb e.symm)]
  · simp [hlt]
  · obtain ⟨u, hu, hru⟩ := h10 s v hv
    exact ⟨u, hu, hru.ext (Sig.le_refl _) hE fun j hj => hj.elim⟩
theorem run_getLoop {B : Nat} {r : Loop} (h : w.heap[B]? = some (.loop r)) : (Instr.getLoop B).run P w = .ok r w := by
  simp [Instr.getLoop, getObj, Sem.run, h]
theorem run_setLoop {B : Nat} {r : Loop} (h : w.heap[B]? = some (.loop r)) (o : Obj) : (setObj B o).run P w = .ok () { w with heap := w.heap.setIfInBounds B o } := by
  simp [setObj, Sem.run, h]
theorem yieldA_of_ok {id : Nat} {li : LI} {fr : List (Nat × AV)} {args : List AV} {sto : Sto} {rav : AV} {rsto : Sto} (hid : Pin id) (hl : look sto id = some (.loop li fr .ready none))
    (hps : (allBlt li.n li.params.toList && Nat.beq li.params.toList.length args.length) = true)
    (h : ∀ (w0 : World) (σ0 : Sig) (φ0 : Pl) (M : Nat → Prop) (B : Nat), OkC P ⟨w0, σ0, φ0, M, li.n, some B, []⟩ li.assign ⟨roundFr li.params.toList args fr, sto⟩
      (fun e st1 => e = .normal ∧ ∃ li1 fr1, look st1.sto id = some (.loop li1 fr1 .ready none) ∧
        OkC P ⟨w0, σ0, φ0, M, li.n, some B, []⟩ li.body ⟨st1.fr, setS id (.loop li1 fr1 .busy none) st1.sto⟩ (RoundQ id rav rsto))) : YieldA P id args sto rav rsto := by
  refine ⟨fun w σ φ vs B cp hinv hp hargs => ?_⟩
  simp only [Bool.and_eq_true] at hps
  have hlen := hargs.length
  have hpl := Nat.eq_of_beq_eq_true hps.2
  obtain ⟨B', c', r, h1, h2, ⟨h3, h4, h6, h7, h8, h9⟩, h10, h11⟩ := hinv.obj _ _ hl
  rw [hp] at h1; cases h1
  have hslot := roundFr_slot (σ := σ) (φ := φ) (sto := sto) (ps := li.params.toList) (args := args) (fr := fr) (vs := vs) (tmps := r.tmps) (by rw [h9]; exact hps.1) hargs (by omega) h10
  refine ⟨r.fn, (r.params.zip vs.toArray).foldl (fun tmps (t, a) => tmps.setIfInBounds t a) r.tmps, r.assign, r.body, ?_, ?_⟩
  · have : ¬ (vs.toArray.size ≠ r.params.size) := by
      rw [h6]; simp; rw [← hlen, ← hpl]; simp
    simp only [Instr.yield, Sem.run_bind, run_getLoop h2, Result.andThen_ok, if_neg this, Sem.run_pure]
  refine roundIn_of_wpIn trivial ?_
  rw [h7, h8]
  have e0 : ((r.params.zip vs.toArray).foldl (fun tmps (t, a) => tmps.setIfInBounds t a) r.tmps) = (li.params.toList.zip vs).foldl (fun (t : Array Value) (p : Nat × Value) => t.setIfInBounds p.1 p.2) r.tmps := by
    rw [h6]; exact zip_toArray_foldl
  rw [e0]
  have hrel : Rel ⟨w, σ, φ, MOf φ sto, li.n, some B, []⟩ ⟨roundFr li.params.toList args fr, sto⟩ { tmps := (li.params.toList.zip vs).foldl (fun (t : Array Value) (p : Nat × Value) => t.setIfInBounds p.1 p.2) r.tmps, defers := [] } w σ φ :=
    ⟨Sig.le_refl _, fun b hb => .inl hb, hinv, fun id e p hi hp => .inr ⟨id, e, p, hi, hp, rfl⟩, hslot.2, rfl, hslot.1.trans h9, ⟨rfl, rfl, rfl, Nat.le_refl _, Nat.le_refl _, fun _ _ _ => rfl⟩, fun _ _ => rfl⟩
  refine wpIn_mono (h w σ φ (MOf φ sto) B _ _ _ _ hrel) ?_
  rintro e a1 w1 ⟨st1, σ1, φ1, ⟨rfl, li1, fr1, hl1, hbody⟩, hrE⟩
  have hr1 := hrE.rel (by simp)
  have hp1 : φ1 id = some (B, cp) := (hr1.pin id hid).trans hp
  obtain ⟨r1, hh1, hs1⟩ := loop_obj hr1 hl1 hp1
  obtain ⟨σ2, φ2, hr2⟩ := hr1.mark hl1 hp1 hh1 .busy none { r1 with state := .busy } (by rw [← hs1.2.1])
  refine ⟨_, ?_, wpIn_mono (hbody _ _ _ _ hr2) ?_⟩
  · simp only [Instr.beginRound, Sem.run_bind, run_getLoop hh1, Result.andThen_ok, run_setLoop hh1, hs1.1, Sem.run_pure]
  rintro e a2 w2 ⟨st2, σ3, φ3, ⟨li2, fr2, p2, hl2, hq⟩, hrE2⟩
  have fin : ∀ {a2 : Act} {s' : LoopState} {p' : Option Code} {b : Bool}, Rel ⟨w, σ, φ, MOf φ sto, li.n, some B, []⟩ st2 a2 w2 σ3 φ3 → rav = .one (.d (.bool b)) → SubL (setS id (.loop li2 fr2 s' p') st2.sto) rsto → (s' = if p'.isNone then .ready else .done) → b = p'.isNone →
      ∃ v w', (Instr.endRound B p').run P w2 = .ok v w' ∧ ∃ v' σ' φ', Ending.returned v = .returned v' ∧ RetP rav rsto w σ φ (MOf φ sto) v' w' σ' φ' := by
    intro a2 s' p' b hr3 hrav hsub hs' hb
    have hp3 : φ3 id = some (B, cp) := (hr3.pin id hid).trans hp
    obtain ⟨r3, hh3, hs3⟩ := loop_obj hr3 hl2 hp3
    obtain ⟨σ4, φ4, hr4⟩ := hr3.mark hl2 hp3 hh3 s' p' { r3 with state := s', pending := p' } rfl
    refine ⟨.bool b, _, ?_, .bool b, σ4, φ4, rfl, hr4.retP (by rw [hrav]; exact RepC.d .bool) hsub⟩
    subst hs' hb
    simp only [Instr.endRound, Sem.run_bind, run_getLoop hh3, Result.andThen_ok, run_setLoop hh3, Sem.run_pure]
  rcases hq with ⟨rfl, hrav, hsub⟩ | ⟨j, hj, hrav, hsub⟩
  · exact fin (hrE2.rel (by simp)) hrav hsub rfl rfl
  · have hr3 : ∃ a2, Rel ⟨w, σ, φ, MOf φ sto, li.n, some B, []⟩ st2 a2 w2 σ3 φ3 := by
      rcases hrE2 with h | ⟨_, _, _, _, _, h⟩
      · exact ⟨_, h⟩
      · exact ⟨_, h⟩
    obtain ⟨a3, hr3⟩ := hr3
    cases e <;> simp only [jumpOf, Option.some.injEq, reduceCtorEq] at hj <;> subst hj
    · exact fin hr3 hrav hsub rfl rfl
    · exact fin hr3 hrav hsub rfl rfl
end Go.Abs
