import Derived.LoopNIn
import Derived.Laws.RangeAny
import Derived.Test.YtpejdgkaapnekaaGreatRows
import Derived.Deep.Slices
import Derived.Deep.DeepHandedRow
import Derived.ReadAgain
import Derived.MapPlaces
import Derived.WalkKit
import Derived.ProofKit
import Derived.OpenShut
import Derived.JoinedCond
import Derived.Test.YtpejdgkaapnekaaGreatPb
import Derived.Test.YtpejdgkaapnekaaGreatP2
set_option linter.unusedVariables false
set_option linter.unusedSimpArgs false
namespace Go.Proofs.YtpejdgkaapnekaaGreat
open Go Go.Abs
attribute [local irreducible] OkOps OkC DRun thenQ blockQ RetQ
set_option maxRecDepth 10000
def letterF (c : Nat) : Bool := decide (97 ≤ c) && decide (c ≤ 122)
def furtherF (c : Nat) : Bool := letterF c || (decide (48 ≤ c) && decide (c ≤ 57)) || decide (c = 95)
def nameF (s : List UInt8) : Bool := decide (1 ≤ s.length) && decide (s.length ≤ 12) && letterF (at_ s 0).toNat && s.all (fun c => furtherF c.toNat)
end Go.Proofs.YtpejdgkaapnekaaGreat
namespace Go.Proofs.YtpejdgkaapnekaaGreat
open Go Go.Abs
attribute [local irreducible] OkOps OkC DRun thenQ blockQ RetQ
set_option maxRecDepth 10000
structure Dim where
  name : List UInt8
  lo : Int
  hi : Int
  deriving Inhabited
structure Attr where
  name : List UInt8
  type : Int
  deriving Inhabited
def lastF (hi : Int) : Int := min hi 1073741824
def boundsF (lo hi : Int) : Bool := decide (-1073741824 ≤ lo) && decide (lo ≤ 1073741824) && decide (lo ≤ hi) && decide (hi ≤ 1073741825)
def withinL : List Dim → List Int → Bool
  | d :: ds, x :: xs => decide (d.lo ≤ x) && decide (x ≤ lastF d.hi) && withinL ds xs
  | _, _ => true
def ofF (ds : List Dim) (at' : List Int) : Bool := decide (at'.length = ds.length) && withinL ds at'
def dimsGo : List (List UInt8) → List Dim → Int
  | _, [] => 0
  | met, d :: r => if !nameF d.name || met.contains d.name then 11 else if !boundsF d.lo d.hi then 3 else dimsGo (met ++ [d.name]) r
def dimsF (ds : List Dim) : Int := if (ds.length : Int) < 1 ∨ 4 < (ds.length : Int) then 13 else dimsGo [] ds
def attrsGo : List (List UInt8) → List Attr → Int
  | _, [] => 0
  | met, a :: r => if !nameF a.name || met.contains a.name then 11 else if a.type < 1 ∨ 4 < a.type then 12 else attrsGo (met ++ [a.name]) r
def schemaF (ds : List Dim) (ats : List Attr) : Int := if dimsF ds ≠ 0 then dimsF ds else if (ats.length : Int) < 1 ∨ 6 < (ats.length : Int) then 9 else attrsGo (ds.map Dim.name) ats
end Go.Proofs.YtpejdgkaapnekaaGreat
namespace Go.Proofs.YtpejdgkaapnekaaGreat
open Go Go.Abs
attribute [local irreducible] OkOps OkC DRun thenQ blockQ RetQ
set_option maxRecDepth 10000
structure Val where
  kind : Int
  num : Int
  den : Int
  str : List UInt8
  deriving Inhabited
def plainF (d : Int) (s : List UInt8) : Bool := d == 0 && s == []
theorem c279 (k n d : Int) (s : List UInt8) : CallA Tryz.prog 279 [.agg [.d (.int .i64 k), .d (.int .i64 n), .d (.int .i64 d), .d (.str s)]] [] (.one (.d (.bool (plainF d s)))) [] := by
  refine enter tabOk Tryz.func279 rfl (by decide +kernel) rfl fun hok w0 σ0 φ0 M => ?_
  repeat' (first | (show OkOps _ _ _ _ _ _; first | refine okops_nil ?_ | refine s_plain tabOk rfl rfl rfl rfl rfl ?_ | (show OkOps _ _ _ (Oper.mk _ (_) _ _ _ (some _) :: _) _ _; first | refine s_guard rfl rfl (by first | assumption | rfl) ?_ | refine s_out rfl rfl (by first | assumption | rfl) rfl rfl ?_ | refine s_split rfl rfl rfl rfl (fun h => ?_) (fun h => ?_) | fail) | (show OkOps _ _ _ (Oper.mk _ (Op.pick _ _ _) _ _ _ (_) :: _) _ _; first | refine s_e envOk rfl rfl rfl (step3_pickT rfl rfl (by first | rfl | assumption) rfl) ?_ | refine s_e envOk rfl rfl rfl (step3_pickF rfl rfl (by first | rfl | assumption) rfl) ?_ | fail) | (show OkOps _ _ _ (Oper.mk _ (Op.box _ _) _ _ _ (_) :: _) _ _; first | refine s_box 0 rfl rfl rfl rfl rfl rfl ?_ | fail) | fail) | (show OkC _ _ _ _ _; first | refine ok_seq ?_ | refine ok_region ?_ | refine ok_ret ?_ | fail) | (show thenQ _ _ _ _; first | refine then_n ?_ | fail) | (show RetQ _ _ _ _ _ _; first | refine ret_leaf (.inl rfl) rfl rfl ?_ | fail) | fail)
  all_goals (try (((simp_all [plainF, at_drop, List.drop_eq_nil_of_le]) <;> first | omega | (rw [Bool.eq_iff_iff]; simp; omega) | grind); done))
theorem c280 (a b : Nat) : CallA Tryz.prog 280 [.one (.d (.int .i64 a)), .one (.d (.int .i64 b))] [] (.one (.d (.int .i64 (Nat.gcd a b)))) [] := by
  refine enter tabOk Tryz.func280 rfl (by decide +kernel) rfl fun hok w0 σ0 φ0 M => ?_
  repeat' (first | (show OkOps _ _ _ _ _ _; first | refine okops_nil ?_ | refine s_plain tabOk rfl rfl rfl rfl rfl ?_ | fail) | (show OkC _ _ _ _ _; first | refine ok_seq ?_ | refine ok_region ?_ | refine ok_block ?_ | refine ok_skip ?_ | refine ok_ret ?_ | refine ok_exit ?_ | refine ok_cond rfl (fun h => ?_) (fun h => ?_) | refine ok_regionD progOk.mo ?_ | refine s_loop 1 rfl [] subL_nil (fun (p : Nat × Nat) => [(0, .one (.d (.int .i64 (p.1 : Int)))), (1, .one (.d (.int .i64 (p.2 : Int))))]) (fun (p : Nat × Nat) => Nat.gcd p.1 p.2 = Nat.gcd a b) (fun (p : Nat × Nat) => p.2) (a, b) (subL_cons rfl (subL_cons rfl subL_nil)) ?_ (fun p hg => ?_) | fail) | (show thenQ _ _ _ _; first | refine then_n ?_ | refine then_x ?_ | fail) | (show blockQ _ _ _ _; first | refine block_n ?_ | refine block_x rfl ?_ | fail) | (show RetQ _ _ _ _ _ _; first | refine ret_leaf (.inl rfl) rfl rfl ?_ | fail) | (show DRun _ _ _ _ _ _ _ _; first | refine d_nil (by kernel_rfl) ?_ | refine d_e envOk rfl rfl rfl (step3_plain rfl rfl) ?_ | (show DRun _ _ _ _ (Oper.mk _ (Op.binOp .rem _ _ _ _) _ _ _ (_) :: _) _ _ _; first | refine d_e envOk rfl rfl rfl (step3_rem rfl rfl rfl rfl (by first | omega | ((try simp only [decide_eq_true_eq, decide_eq_false_iff_not, Bool.not_eq_true', Bool.not_true, Bool.not_false, List.length_map, List.length_set, bne_iff_ne, ne_eq, beq_iff_eq, bne_eq_false_iff_eq, beq_eq_false_iff_ne] at *); omega))) ?_ | fail) | fail) | (show Exists _; first | refine Exists.intro ((p.2, p.1 % p.2)) ⟨?_, ?_, (by first | exact subL_nil | exact (subL_cons rfl subL_nil) | exact (subL_cons rfl (subL_cons rfl subL_nil)) | exact (subL_cons rfl (subL_cons rfl (subL_cons rfl subL_nil))) | exact (subL_cons rfl (subL_cons rfl (subL_cons rfl (subL_cons rfl subL_nil)))) | exact (subL_cons rfl (subL_cons rfl (subL_cons rfl (subL_cons rfl (subL_cons rfl subL_nil))))) | exact (subL_cons rfl (subL_cons rfl (subL_cons rfl (subL_cons rfl (subL_cons rfl (subL_cons rfl subL_nil)))))) | exact (subL_cons rfl (subL_cons rfl (subL_cons rfl (subL_cons rfl (subL_cons rfl (subL_cons rfl (subL_cons rfl subL_nil))))))) | exact (subL_cons rfl (subL_cons rfl (subL_cons rfl (subL_cons rfl (subL_cons rfl (subL_cons rfl (subL_cons rfl (subL_cons rfl subL_nil))))))))), (subL_cons rfl (subL_cons rfl subL_nil)), subL_nil⟩ | fail) | fail)
  all_goals (try (((simp_all [at_drop, List.drop_eq_nil_of_le]) <;> first | omega | (rw [Bool.eq_iff_iff]; simp; omega) | grind); done))
  · have h' : p.2 ≠ 0 := by simpa using h
    show Nat.gcd p.2 (p.1 % p.2) = _
    rw [Nat.gcd_comm, ← Nat.gcd_rec, Nat.gcd_comm]; exact hg
  · have h' : p.2 ≠ 0 := by simpa using h
    exact Nat.mod_lt _ (by omega)
end Go.Proofs.YtpejdgkaapnekaaGreat
namespace Go.Proofs.YtpejdgkaapnekaaGreat
open Go Go.Abs
attribute [local irreducible] OkOps OkC DRun thenQ blockQ RetQ
set_option maxRecDepth 10000
def cmpF : List Int → List Int → Int
  | [], [] => 0
  | [], _ :: _ => -1
  | _ :: _, [] => 1
  | x :: xs, y :: ys => if x < y then -1 else if y < x then 1 else cmpF xs ys
def idxGo {α : Type} (p : α → Bool) : List α → Nat → Int
  | [], _ => -1
  | x :: r, k => if p x then k else idxGo p r (k + 1)
end Go.Proofs.YtpejdgkaapnekaaGreat
namespace Go.Proofs.YtpejdgkaapnekaaGreat
open Go Go.Abs
end Go.Proofs.YtpejdgkaapnekaaGreat
namespace Go.Proofs.YtpejdgkaapnekaaGreat
open Go Go.Abs
attribute [local irreducible] OkOps OkC DRun thenQ blockQ RetQ
set_option maxRecDepth 10000
def okByte (c : UInt8) : Bool := decide (32 ≤ c.toNat) && decide (c.toNat ≤ 126)
def rightF (k n d : Int) (s : List UInt8) : Bool :=
  if k = 0 then plainF d s && (decide (1 ≤ n) && decide (n ≤ 255))
  else if k = 1 then plainF d s && (n == 0 || n == 1)
  else if k = 2 then s == [] && (decide (1 ≤ d) && (decide (d ≤ 1099511627776) && (decide (-1099511627776 ≤ n) && (decide (n ≤ 1099511627776) && ((Nat.gcd n.natAbs d.toNat : Nat) : Int) == 1))))
  else if k = 3 then n == 0 && (d == 0 && (decide ((s.length : Int) ≤ 16) && s.all okByte))
  else false
def fitsF (k n d : Int) (s : List UInt8) (t : Int) : Bool :=
  rightF k n d s && (decide (1 ≤ t) && (decide (t ≤ 4) && (if k = 0 then true else if k = 1 then t == 1 else if k = 2 then t == 3 || t == 2 && d == 1 else t == 4)))
theorem c281 (c : Int) : CallA Tryz.prog 281 [.one (.d (.int .i32 c))] [] (.one (.d (.bool (decide (c < 32) || decide (126 < c))))) [] := by
  refine enter tabOk Tryz.func281 rfl (by decide +kernel) rfl fun hok w0 σ0 φ0 M => ?_
  repeat' (first | (show OkOps _ _ _ _ _ _; first | refine okops_nil ?_ | refine s_plain tabOk rfl rfl rfl rfl rfl ?_ | (show OkOps _ _ _ (Oper.mk _ (_) _ _ _ (some _) :: _) _ _; first | refine s_guard rfl rfl (by first | assumption | rfl) ?_ | refine s_out rfl rfl (by first | assumption | rfl) rfl rfl ?_ | refine s_split rfl rfl rfl rfl (fun h => ?_) (fun h => ?_) | fail) | (show OkOps _ _ _ (Oper.mk _ (Op.pick _ _ _) _ _ _ (_) :: _) _ _; first | refine s_e envOk rfl rfl rfl (step3_pickT rfl rfl (by first | rfl | assumption) rfl) ?_ | refine s_e envOk rfl rfl rfl (step3_pickF rfl rfl (by first | rfl | assumption) rfl) ?_ | fail) | fail) | (show OkC _ _ _ _ _; first | refine ok_seq ?_ | refine ok_region ?_ | refine ok_ret ?_ | fail) | (show thenQ _ _ _ _; first | refine then_n ?_ | fail) | (show RetQ _ _ _ _ _ _; first | refine ret_leaf (.inl rfl) rfl rfl ?_ | fail) | fail)
  all_goals (try (((simp_all [at_drop, List.drop_eq_nil_of_le]) <;> first | omega | (rw [Bool.eq_iff_iff]; simp; omega) | grind); done))
end Go.Proofs.YtpejdgkaapnekaaGreat
namespace Go.Abs
open Go
variable {P : Program} {V : Env} {T : Tab} {c : Ctx} {w0 : World} {σ0 : Sig} {φ0 : Pl} {M : Nat → Prop} {n : Nat} {rd : Option Nat} {mk : List Deferred} {ops : Array Oper} {o : Oper} {rest : List Oper} {fr : List (Nat × AV)} {sto : Sto} {K : St → Prop} {st st0 : St}
theorem s_callM (k : Nat) (ρ : List (Nat × Nat)) {d : Nat} {fop : Operand} {args : Array Operand} {ats : Array TypeId} {f : FuncId} {cargs : List AV} {cs rs : Sto} {rav rav' : AV} {sto' : Sto} (hC : CallA P f cargs cs rav rs)
    (ho : o.op = .call { callee := .value fop, args := args, argTypes := ats }) (hg : o.guard = none) (hdst : o.dst = some d) (hd : Nat.blt d n = true) (hf : ev ⟨fr, sto⟩ fop = some (.one (.d (.fn f []))))
    (ha : evL ⟨fr, sto⟩ args.toList = some (renL (rn k ρ) cargs)) (hpass : Pass ⟨fr, sto⟩ (rn k ρ) ρ cs) (hcomp : CompatL ⟨fr, sto⟩ (rn k ρ) ρ rs)
    (hk : (bigK ρ && injK ρ && allIn cs ρ && keysNd ρ && keysOk ρ rs && avsIn cs (cargs ++ []) && stoIn cs cs && avIn rs rav && stoIn rs rs && Nat.ble (k + 16) 1000000) = true) (hfresh : freshRB k ⟨fr, sto⟩ = true)
    (hr : renV (rn k ρ) rav = rav') (hs : putR (rn k ρ) (delL ρ sto) rs = sto')
    (h : OkOps P ⟨w0, σ0, φ0, M, n, rd, mk⟩ ops rest ⟨(d, rav') :: fr, sto'⟩ K) : OkOps P ⟨w0, σ0, φ0, M, n, rd, mk⟩ ops (o :: rest) ⟨fr, sto⟩ K := by
  subst hr; subst hs
  exact okops_callM k ρ ho hg (by rw [hdst]; exact hd) hf ha (caps := []) (by simpa using hC) hpass hcomp hk (freshRB_ok hfresh) (by rw [hdst]; exact h)
theorem s_loopM {α : Type} {body : Code} {Q : Exit → St → Prop} (rg : Nat) (hrg : firstReg body = rg) (kept : List (Nat × AV)) (hk : SubL fr kept) (L : α → List (Nat × AV)) (S : α → Sto) (Inv : α → Prop) (μ : α → Nat) (x0 : α) (hL : SubL fr (L x0)) (hS : SubL sto (S x0)) (h0 : Inv x0)
    (hround : ∀ x, Inv x → OkC P c body ⟨L x ++ kept, S x⟩ (thenQ (fun st' => ∃ y, Inv y ∧ μ y < μ x ∧ SubL st'.sto (S y) ∧ SubL st'.fr (L y) ∧ SubL st'.fr kept) Q)) : OkC P c (.loop body) ⟨fr, sto⟩ Q := by
  have hap : ∀ {f a b : List (Nat × AV)}, SubL f a → SubL f b → SubL f (a ++ b) := by
    intro f a b h1 h2
    induction a with
    | nil => exact h2
    | cons p r ih => exact ⟨h1.1, ih h1.2⟩
  have hdr : ∀ {f : List (Nat × AV)} {s s' : Sto}, SubL s s' → Imp c ⟨f, s⟩ ⟨f, s'⟩ := fun h a w σ φ hr => ⟨σ, φ, hr.dropTo fun i e hi => h.look hi⟩
  refine okc_imp (st' := ⟨L x0 ++ kept, S x0⟩) (Imp.trans (imp_subL (hap hL hk)) (hdr hS)) ?_
  refine ok_loop (fun n st => ∃ x, Inv x ∧ n = μ x ∧ st = ⟨L x ++ kept, S x⟩) (μ x0) ⟨x0, h0, rfl, rfl⟩ ?_
  rintro n st ⟨x, hx, rfl, rfl⟩
  refine ok_mono (hround x hx) fun e st h => ?_
  cases e with
  | normal =>
    obtain ⟨y, hy, hlt, hs, h1, h2⟩ := h
    obtain ⟨f, s⟩ := st
    simp only at hs h1 h2
    exact ⟨μ y, _, hlt, ⟨y, hy, rfl, rfl⟩, Imp.trans (imp_subL (hap h1 h2)) (hdr hs)⟩
  | _ => exact h
theorem step3_remE {t ty : TypeId} {x y : Operand} {k k' : IntKind} {a b : Int} (ho : o.op = .binOp .rem t x y ty)
    (hx : ev st x = some (.one (.d (.int k a)))) (hy : ev st y = some (.one (.d (.int k' b)))) (hk : kEq k k' = true) (ha : 0 ≤ a) (h0 : 0 < b) : step3 V st o 0 = some ⟨.one (.d (.int k (a % b))), [], []⟩ := by
  rw [← Int.tmod_eq_emod_of_nonneg ha]
  exact step3_rem ho hx hy hk (by omega)
theorem step3_quoE {t ty : TypeId} {x y : Operand} {k k' : IntKind} {a b : Int} (ho : o.op = .binOp .quo t x y ty)
    (hx : ev st x = some (.one (.d (.int k a)))) (hy : ev st y = some (.one (.d (.int k' b)))) (hk : kEq k k' = true) (ha : 0 ≤ a) (h0 : 0 < b) (hz : k.wrap (a / b) = a / b) : step3 V st o 0 = some ⟨.one (.d (.int k (a / b))), [], []⟩ := by
  refine step3_quo ho hx hy hk (by omega) ?_
  rw [Int.tdiv_eq_ediv_of_nonneg ha]
  exact hz
theorem imp_sealL {dl : List Nat} {ss : St} (h : sealL st dl = some ss) : Imp c st ss := fun a w σ φ hr => by
  obtain ⟨σs, _, h3, _⟩ := Rel.sealL h hr
  exact ⟨σs, φ, h3⟩
theorem s_callD (k : Nat) {d : Nat} {fop : Operand} {args : Array Operand} {ats : Array TypeId} {f : FuncId} {caps : List D} {avs avs' : List AV} {rav rav' : AV}
    (ho : o.op = .call { callee := .value fop, args := args, argTypes := ats }) (hg : o.guard = none) (hdst : o.dst = some d) (hd : Nat.blt d n = true) (hf : ev ⟨fr, sto⟩ fop = some (.one (.d (.fn f caps))))
    (ha : evL ⟨fr, sto⟩ args.toList = some avs) (hD : avsD avs = true) (hap : (avs ++ caps.map fun x => .one (.d x)) = avs') (hC : CallA P f avs' [] rav [])
    (hk : (keysOk [] [] && Nat.ble (k + 16) 1000000 && avIn [] rav && stoIn [] []) = true) (hfresh : freshRB k ⟨fr, sto⟩ = true) (hr : renV (rn k []) rav = rav')
    (h : OkOps P ⟨w0, σ0, φ0, M, n, rd, mk⟩ ops rest ⟨(d, rav') :: fr, sto⟩ K) : OkOps P ⟨w0, σ0, φ0, M, n, rd, mk⟩ ops (o :: rest) ⟨fr, sto⟩ K := by
  subst hap; subst hr
  exact okops_call k ho hg (by rw [hdst]; exact hd) hf ha hD hC hk (freshRB_ok hfresh) (by rw [hdst]; exact h)
theorem d_callD (k : Nat) {ops : Array Oper} {acc : List Tr} {d : Nat} {fop : Operand} {args : Array Operand} {ats : Array TypeId} {f : FuncId} {caps : List D} {avs avs' : List AV} {rav rav' : AV}
    (ho : o.op = .call { callee := .value fop, args := args, argTypes := ats }) (hg : o.guard = none) (hdst : o.dst = some d) (hd : Nat.blt d c.n = true) (hf : ev ⟨fr, sto⟩ fop = some (.one (.d (.fn f caps))))
    (ha : evL ⟨fr, sto⟩ args.toList = some avs) (hD : avsD avs = true) (hap : (avs ++ caps.map fun x => .one (.d x)) = avs') (hC : CallA P f avs' [] rav [])
    (hk : (keysOk [] [] && Nat.ble (k + 16) 1000000 && avIn [] rav && stoIn [] []) = true) (hr : renV (rn k []) rav = rav')
    (h : DRun P c ops st0 rest ⟨(d, rav') :: fr, sto⟩ (callTr k [] [] rav [] :: acc) K) : DRun P c ops st0 (o :: rest) ⟨fr, sto⟩ acc K := by
  subst hap; subst hr
  refine d_run hg (loc_callD k ho (by rw [hdst]; exact hd) hf ha hD hC hk) ?_
  rw [hdst]; exact h
def OkRounds (P : Program) (c : Ctx) (body : Code) (Q : Exit → St → Prop) : Nat → St → Prop
  | 0, _ => False
  | m + 1, st => OkC P c body st (thenQ (fun st' => OkRounds P c body Q m st') Q)
theorem ok_rounds {body : Code} {Q : Exit → St → Prop} (rg : Nat) (hrg : firstReg body = rg) (m : Nat) (h : OkRounds P c body Q m st) : OkC P c (.loop body) st Q := by
  intro a w σ φ hr
  refine wpIn_loop_rounds m ?_
  have key : ∀ m st a w σ φ, OkRounds P c body Q m st → Rel c st a w σ φ → Code.roundsIn (fnc c) 0 P body (fun e a' w' => ∃ st' σ' φ', Q e st' ∧ RelE c e st' a' w' σ' φ') m a w := by
    intro m
    induction m with
    | zero => intro st a w σ φ h; exact h.elim
    | succ m ih =>
      intro st a w σ φ h hr
      rw [roundsIn_succ]
      refine wpIn_mono (h a w σ φ hr) fun e a' w' ⟨st', σ', φ', h1, h2⟩ => ?_
      cases e with
      | normal => exact ih st' a' w' σ' φ' h1 (h2.rel (by simp))
      | _ => exact ⟨st', σ', φ', h1, h2⟩
  exact key m st a w σ φ h hr
theorem s_new (hV : EnvOk P V) (id : Nat) {d : Nat} {v : AV} {wr : List (Nat × Option AObj)} {nw : List Nat} (hg : o.guard = none) (hdst : o.dst = some d) (hd : Nat.blt d n = true) (h : step3 V ⟨fr, sto⟩ o id = some ⟨v, wr, nw⟩) (hid : Nat.blt (id + 1) 1000000 = true) (hf : freshLB ⟨fr, sto⟩ nw = true)
    (hk : OkOps P ⟨w0, σ0, φ0, M, n, rd, mk⟩ ops rest ⟨(d, v) :: fr, appW wr sto⟩ K) : OkOps P ⟨w0, σ0, φ0, M, n, rd, mk⟩ ops (o :: rest) ⟨fr, sto⟩ K := by
  have := step3_ok (c := ⟨w0, σ0, φ0, M, n, rd, mk⟩) hV (o := o) (by rw [hdst]; exact hd) h hid (freshLB_ok hf) ops rest K (by rw [hdst]; exact hk)
  rwa [unguard hg] at this
theorem ret_leafS {T : Tab} {rs : List ResultVar} {rav rav' : AV} {rsto : Sto} {e : Exit} {st : St} {l : List (Bool × List AC)} (he : e = .ret ∨ e = .normal) (hl : resL T st rs = some l) (hr : resAV l = some rav') (h : rav' = rav) (hs : SubL st.sto rsto) : RetQ T rs rav rsto e st :=
  ⟨he, l, hl, by rw [hr, h], hs⟩
end Go.Abs
namespace Go.Abs
open Go
variable {P : Program} {V : Env} {T : Tab} {c : Ctx} {w0 : World} {σ0 : Sig} {φ0 : Pl} {M : Nat → Prop} {n : Nat} {rd : Option Nat} {mk : List Deferred} {ops : Array Oper} {o : Oper} {rest : List Oper} {fr : List (Nat × AV)} {sto : Sto} {K : St → Prop} {st st0 : St} {acc : List Tr}
variable {σ σ' : Sig} {φ φ' : Pl} {w w' : World}
def acClean : AC → Bool
  | .own i _ | .sub i _ _ | .ref i _ | .rref i _ _ | .yl i | .mapr i | .bsl i _ _ => Nat.ble i 1000000
  | _ => true
def acsClean : List AC → Bool
  | [] => true
  | x :: r => acClean x && acsClean r
def tsClean : List (Bool × List AC) → Bool
  | [] => true
  | t :: r => acsClean t.2 && tsClean r
def avClean : AV → Bool
  | .one x => acClean x
  | .agg cs => acsClean cs
  | .tup ts => tsClean ts
  | .any => true
def frClean : List (Nat × AV) → Bool
  | [] => true
  | p :: r => avClean p.2 && frClean r
def stoClean : Sto → Bool
  | [] => true
  | p :: r => (match p.2 with | .box cs => acsClean cs | .loop _ fr _ _ => frClean fr | _ => true) && stoClean r
theorem acClean_men {x : AC} (h : acClean x = true) : ∀ i, 1000000 < i → x.men i = false := by
  intro i hi
  have key : ∀ {j : Nat}, Nat.ble j 1000000 = true → Nat.beq j i = false := by
    intro j hj
    have := Nat.le_of_ble_eq_true hj
    cases hb : Nat.beq j i with
    | false => rfl
    | true => have := Nat.eq_of_beq_eq_true hb; omega
  cases x <;> first | rfl | exact key h
theorem acsClean_men : ∀ {l : List AC}, acsClean l = true → ∀ i, 1000000 < i → acsMen i l = false
  | [], _, _, _ => rfl
  | x :: r, h, i, hi => by
    simp only [acsClean, Bool.and_eq_true] at h
    simp only [acsMen, acClean_men h.1 i hi, acsClean_men h.2 i hi, Bool.or_self]
theorem tsClean_men : ∀ {l : List (Bool × List AC)}, tsClean l = true → ∀ i, 1000000 < i → tsMen i l = false
  | [], _, _, _ => rfl
  | x :: r, h, i, hi => by
    simp only [tsClean, Bool.and_eq_true] at h
    simp only [tsMen, acsClean_men h.1 i hi, tsClean_men h.2 i hi, Bool.or_self]
theorem avClean_men {x : AV} (h : avClean x = true) : ∀ i, 1000000 < i → x.men i = false := by
  intro i hi
  cases x with
  | one x => exact acClean_men h i hi
  | agg cs => exact acsClean_men h i hi
  | tup ts => exact tsClean_men h i hi
  | any => rfl
theorem frClean_look : ∀ {l : List (Nat × AV)}, frClean l = true → ∀ {s : Nat} {v : AV}, look l s = some v → avClean v = true
  | [], _, _, _, h => by simp [look] at h
  | (t, x) :: r, h, s, v, hl => by
    simp only [frClean, Bool.and_eq_true] at h
    rcases look_cons hl with ⟨_, rfl⟩ | ⟨_, hl⟩
    · exact h.1
    · exact frClean_look h.2 hl
theorem frClean_men : ∀ {l : List (Nat × AV)}, frClean l = true → ∀ i, 1000000 < i → frMen i l = false
  | [], _, _, _ => rfl
  | x :: r, h, i, hi => by
    simp only [frClean, Bool.and_eq_true] at h
    simp only [frMen, avClean_men h.1 i hi, frClean_men h.2 i hi, Bool.or_self]
theorem stoClean_men : ∀ {l : Sto}, stoClean l = true → ∀ {j : Nat} {e : AObj}, look l j = some e → ∀ i, 1000000 < i → e.men i = false
  | [], _, _, _, h, _, _ => by simp [look] at h
  | (t, x) :: r, h, j, e, hl, i, hi => by
    simp only [stoClean, Bool.and_eq_true] at h
    rcases look_cons hl with ⟨_, rfl⟩ | ⟨_, hl⟩
    · have h1 := h.1
      cases e with
      | box cs => exact acsClean_men h1 i hi
      | loop li fr s q => exact frClean_men h1 i hi
      | _ => rfl
    · exact stoClean_men h.2 hl i hi
theorem look_append {α : Type} : ∀ {a b : List (Nat × α)} {i : Nat}, look (a ++ b) i = match look a i with | some v => some v | none => look b i
  | [], _, _ => rfl
  | (j, x) :: r, b, i => by
    simp only [List.cons_append, look]
    cases Nat.beq j i with
    | true => rfl
    | false => simp only [cond_false]; exact look_append
def bigS (s : Sto) : Prop := ∀ i e, look s i = some e → 1000000 ≤ i
theorem look_small {o1 s : Sto} (hs : bigS s) {i : Nat} (hi : i < 1000000) : look (o1 ++ s) i = look o1 i := by
  rw [look_append]
  cases hl : look o1 i with
  | some v => rfl
  | none =>
    simp only
    cases hl' : look s i with
    | none => rfl
    | some e => have := hs _ _ hl'; omega
theorem look_big {o1 s : Sto} (ho : keysLt 1000000 o1 = true) {i : Nat} (hi : 1000000 ≤ i) : look (o1 ++ s) i = look s i := by
  rw [look_append]
  cases hl : look o1 i with
  | none => rfl
  | some e => have := keysLt_look ho hl; omega
theorem RepC.mv {x : AC} {v : Value} {s s2 : Sto} (h : ∀ i, x.men i = true → look s2 i = look s i ∧ φ' i = φ i) (hr : RepC σ φ s x v) : RepC σ φ' s2 x v := by
  have hk : ∀ i, x.men i = true → hasK s2 i = hasK s i := fun i hi => by unfold hasK; rw [(h i hi).1]
  cases hr with
  | d h1 => exact .d h1
  | junk h1 => exact .junk h1
  | dead hx h1 =>
    refine .dead ?_ h1
    cases x <;> simp only [acIn] at hx ⊢ <;> first | exact hx | (rw [hk _ (Nat.beq_refl _)]; exact hx)
  | ownNil hl hp => have := h _ (Nat.beq_refl _); exact .ownNil (this.1.trans hl) (this.2.trans hp)
  | own hl hn hp => have := h _ (Nat.beq_refl _); exact .own (this.1.trans hl) hn (this.2.trans hp)
  | sub hl hn hc hA =>
    have := h _ (Nat.beq_refl _)
    refine .sub (this.1.trans hl) hn hc fun h0 => ?_
    obtain ⟨B, cap, h1, h2⟩ := hA h0
    exact ⟨B, cap, this.2.trans h1, h2⟩
  | ref hl hp => have := h _ (Nat.beq_refl _); exact .ref (this.1.trans hl) (this.2.trans hp)
  | rref hl hp => have := h _ (Nat.beq_refl _); exact .rref (this.1.trans hl) (this.2.trans hp)
  | yl hl hp => have := h _ (Nat.beq_refl _); exact .yl (this.1.trans hl) (this.2.trans hp)
  | mapr hl hp => have := h _ (Nat.beq_refl _); exact .mapr (this.1.trans hl) (this.2.trans hp)
  | bsl hl hp => have := h _ (Nat.beq_refl _); exact .bsl (this.1.trans hl) (this.2.trans hp)
theorem acIn_men {x : AC} {s : Sto} (h : acIn s x = true) : ∀ i, x.men i = true → hasK s i = true := by
  intro i hi
  cases x <;> simp only [AC.men, Bool.false_eq_true] at hi <;> (have := Nat.eq_of_beq_eq_true hi; subst this; exact h)
theorem acsIn_men : ∀ {l : List AC} {s : Sto}, acsIn s l = true → ∀ i, acsMen i l = true → hasK s i = true
  | [], _, _, _, h => by simp [acsMen] at h
  | x :: r, s, h, i, hi => by
    simp only [acsIn, Bool.and_eq_true] at h
    simp only [acsMen, Bool.or_eq_true] at hi
    rcases hi with hi | hi
    · exact acIn_men h.1 i hi
    · exact acsIn_men h.2 i hi
theorem tsIn_men : ∀ {l : List (Bool × List AC)} {s : Sto}, tsIn s l = true → ∀ i, tsMen i l = true → hasK s i = true
  | [], _, _, _, h => by simp [tsMen] at h
  | x :: r, s, h, i, hi => by
    simp only [tsIn, Bool.and_eq_true] at h
    simp only [tsMen, Bool.or_eq_true] at hi
    rcases hi with hi | hi
    · exact acsIn_men h.1 i hi
    · exact tsIn_men h.2 i hi
theorem avIn_men {x : AV} {s : Sto} (h : avIn s x = true) : ∀ i, x.men i = true → hasK s i = true := by
  intro i hi
  cases x with
  | one x => exact acIn_men h i hi
  | agg cs => exact acsIn_men h i hi
  | tup ts => exact tsIn_men h i hi
  | any => simp [AV.men] at hi
theorem frIn_men : ∀ {l : List (Nat × AV)} {s : Sto}, frIn s l = true → ∀ i, frMen i l = true → hasK s i = true
  | [], _, _, _, h => by simp [frMen] at h
  | x :: r, s, h, i, hi => by
    simp only [frIn, Bool.and_eq_true] at h
    simp only [frMen, Bool.or_eq_true] at hi
    rcases hi with hi | hi
    · exact avIn_men h.1 i hi
    · exact frIn_men h.2 i hi
theorem acs_mv {s s2 : Sto} : ∀ {l : List AC} {vs : List Value}, (∀ i, acsMen i l = true → look s2 i = look s i ∧ φ' i = φ i) → All2 (RepC σ φ s) l vs → All2 (RepC σ φ' s2) l vs
  | [], [], _, _ => trivial
  | x :: r, v :: vs, h, ha => ⟨RepC.mv (fun i hi => h i (by simp [acsMen, hi])) ha.1, acs_mv (fun i hi => h i (by simp [acsMen, hi])) ha.2⟩
  | [], _ :: _, _, ha => ha.elim
  | _ :: _, [], _, ha => ha.elim
theorem repT_mv {s s2 : Sto} {t : Bool × List AC} {v : Value} (h : ∀ i, acsMen i t.2 = true → look s2 i = look s i ∧ φ' i = φ i) (hr : RepT σ φ s t v) : RepT σ φ' s2 t v := by
  obtain ⟨b, cs⟩ := t
  cases b with
  | true => obtain ⟨vs, rfl, h1⟩ := hr; exact ⟨vs, rfl, acs_mv h h1⟩
  | false => exact acs_mv h hr
theorem ts_mv {s s2 : Sto} : ∀ {l : List (Bool × List AC)} {vs : List Value}, (∀ i, tsMen i l = true → look s2 i = look s i ∧ φ' i = φ i) → All2 (RepT σ φ s) l vs → All2 (RepT σ φ' s2) l vs
  | [], [], _, _ => trivial
  | x :: r, v :: vs, h, ha => ⟨repT_mv (fun i hi => h i (by simp [tsMen, hi])) ha.1, ts_mv (fun i hi => h i (by simp [tsMen, hi])) ha.2⟩
  | [], _ :: _, _, ha => ha.elim
  | _ :: _, [], _, ha => ha.elim
theorem RepV.mv {x : AV} {v : Value} {s s2 : Sto} (h : ∀ i, x.men i = true → look s2 i = look s i ∧ φ' i = φ i) (hr : RepV σ φ s x v) : RepV σ φ' s2 x v := by
  cases x with
  | one x => exact RepC.mv h hr
  | agg cs => obtain ⟨vs, rfl, h1⟩ := hr; exact ⟨vs, rfl, acs_mv h h1⟩
  | tup ts => obtain ⟨vs, rfl, h1⟩ := hr; exact ⟨vs, rfl, ts_mv h h1⟩
  | any => trivial
theorem aoIn_men {e : AObj} {s : Sto} (h : aoIn s e = true) : ∀ i, e.men i = true → hasK s i = true := by
  intro i hi
  cases e with
  | box cs => exact acsIn_men h i hi
  | loop li fr st p => exact frIn_men h i hi
  | _ => simp [AObj.men] at hi
theorem look_frMen : ∀ {fr : List (Nat × AV)} {s : Nat} {v : AV} {i : Nat}, look fr s = some v → v.men i = true → frMen i fr = true
    | [], _, _, _, h, _ => by simp [look] at h
    | (t, x) :: r, s, v, i, h, hi => by
      rcases look_cons h with ⟨_, rfl⟩ | ⟨_, h⟩
      · simp [frMen, hi]
      · simp only [frMen, look_frMen h hi, Bool.or_true]
theorem ObjRep.mv {id : Nat} {e : AObj} {s s2 : Sto} (h : ∀ i, e.men i = true → look s2 i = look s i ∧ φ' i = φ i) (hφ : φ' id = φ id) (hr : ObjRep σ φ s w id e) : ObjRep σ φ' s2 w id e := by
  cases e with
  | box cs =>
    obtain ⟨B, c, vs, t, h1, h2, h3, h4⟩ := hr
    exact ⟨B, c, vs, t, hφ.trans h1, h2, acs_mv h h3, h4⟩
  | row k b xs =>
    rcases hr with ⟨h1, h2⟩ | ⟨B, cap, arr, t, vs, h1, h2⟩
    · exact .inl ⟨h1, hφ.trans h2⟩
    · exact .inr ⟨B, cap, arr, t, vs, hφ.trans h1, h2⟩
  | map kg vg es =>
    obtain ⟨B, c, ents, h1, h2⟩ := hr
    exact ⟨B, c, ents, hφ.trans h1, h2⟩
  | loop li fr st p =>
    obtain ⟨B, c, r, h1, h2, h3, h4, h5⟩ := hr
    refine ⟨B, c, r, hφ.trans h1, h2, h3, fun s v hv => ?_, h5⟩
    obtain ⟨u, hu, hru⟩ := h4 s v hv
    refine ⟨u, hu, RepV.mv (fun i hi => h i ?_) hru⟩
    exact look_frMen hv hi
theorem HInv.pinned {o1 s : Sto} (ho : keysLt 1000000 o1 = true) (hs : bigS s) (hin : stoIn s s = true) (h : HInv σ φ (o1 ++ s) w) : HInv σ φ s w := by
  have hl : ∀ {i : Nat}, hasK s i = true → look s i = look (o1 ++ s) i := fun {i} hi => by
    obtain ⟨e, he⟩ := hasK_look hi
    rw [look_big ho (hs _ _ he)]
  refine ⟨h.sig, fun i e hi => ?_, fun i i' e e' p p' hi hi' => ?_⟩
  · refine ObjRep.mv (fun j hj => ⟨hl (aoIn_men (stoIn_look hin hi) j hj), rfl⟩) rfl (h.obj i e ?_)
    rw [look_big ho (hs _ _ hi)]; exact hi
  · exact h.inj _ _ _ _ _ _ (by rw [look_big ho (hs _ _ hi)]; exact hi) (by rw [look_big ho (hs _ _ hi')]; exact hi')
def isLoop (s : Sto) : Prop := ∃ li fr st p, look s 1000000 = some (.loop li fr st p)
theorem Rel.callW {o1 s s' : Sto} {a : Act} {rav : AV} {v : Value} {dst : Option Nat} (hr : Rel c ⟨fr, o1 ++ s⟩ a w σ φ) (hd : dstOk c.n dst = true) (ho : (keysLt 1000000 o1 && stoClean o1 && frClean fr) = true) (hs : bigS s) (hs' : bigS s') (hin' : stoIn s' s' = true)
    (hlp : isLoop s) (hlp' : isLoop s') (hfl : flatV rav = true) (hret : RetP rav s' w σ φ (MOf φ s) v w' σ' φ') : Rel c ⟨putO dst rav fr, o1 ++ s'⟩ (a.put dst v) w' σ' (fun i => if 1000000 ≤ i then φ' i else φ i) := by
  simp only [Bool.and_eq_true] at ho
  obtain ⟨⟨ho, hoc⟩, hfc⟩ := ho
  have hpin : ∀ i, 1000000 ≤ i → (fun i => if 1000000 ≤ i then φ' i else φ i) i = φ' i := fun i hi => by simp [hi]
  have hsm : ∀ i : Nat, i < 1000000 → (fun i => if 1000000 ≤ i then φ' i else φ i) i = φ i := by
    intro i hi
    have h9 : ¬ 1000000 ≤ i := by omega
    simp [h9]
  have hpn : φ' 1000000 = φ 1000000 := hret.pin 1000000 ⟨Nat.le_refl _, by omega⟩
  generalize hφ : (fun i => if 1000000 ≤ i then φ' i else φ i) = φn at hpin hsm ⊢
  have hold : ∀ {i e}, look s i = some e → look (o1 ++ s) i = some e := fun {i e} hi => by rw [look_big ho (hs _ _ hi)]; exact hi
  have hownl : ∀ {i e}, look o1 i = some e → look (o1 ++ s) i = some e := fun {i e} hi => by rw [look_small hs (keysLt_look ho hi)]; exact hi
  have hM : ∀ b, MOf φ s b → ∃ i e p, look (o1 ++ s) i = some e ∧ 1000000 ≤ i ∧ φ i = some p ∧ p.1 = b := by
    rintro b ⟨i, e, p, h1, h2, h3⟩
    exact ⟨i, e, p, hold h1, hs _ _ h1, h2, h3⟩
  have hsplit : ∀ {i e}, look (o1 ++ s') i = some e → (i < 1000000 ∧ look o1 i = some e) ∨ (1000000 ≤ i ∧ look s' i = some e) := by
    intro i e hi
    rcases Nat.lt_or_ge i 1000000 with h | h
    · exact .inl ⟨h, by rwa [look_small hs' h] at hi⟩
    · exact .inr ⟨h, by rwa [look_big ho h] at hi⟩
  obtain ⟨li, lf, ls, lp, hL⟩ := hlp
  obtain ⟨li', lf', ls', lp', hL'⟩ := hlp'
  have hE : Ext (fun i => 1000000 < i) φ φn (o1 ++ s) (o1 ++ s') := by
    intro i hi
    rcases Nat.lt_or_ge i 1000000 with h | h
    · rw [look_small hs' h, look_small hs h]
      cases hl : look o1 i with
      | none => exact .inl rfl
      | some e => exact .inr ⟨e, rfl, hsm i h, e, rfl, compat.refl _⟩
    · have : i = 1000000 := by omega
      subst this
      exact .inr ⟨.loop li lf ls lp, hold hL, (hpin _ (Nat.le_refl _)).trans hpn, .loop li' lf' ls' lp', by rw [look_big ho (Nat.le_refl _)]; exact hL', trivial⟩
  have hnot : ∀ {i e p}, look o1 i = some e → φ i = some p → ¬ MOf φ s p.1 := by
    intro i e p hi hp hm
    obtain ⟨j, e', q, h1, h2, h3, h4⟩ := hM _ hm
    exact hr.inv.inj _ _ _ _ _ _ (hownl hi) h1 (by have := keysLt_look ho hi; omega) hp h3 h4.symm
  have hinv : HInv σ' φn (o1 ++ s') w' := by
    refine ⟨hret.inv.sig, fun i e hi => ?_, fun i i' e e' p p' hi hi' hne hp hp' => ?_⟩
    · rcases hsplit hi with ⟨h1, h2⟩ | ⟨h1, h2⟩
      · have hob := hr.inv.obj _ _ (hownl h2)
        refine hob.ext hret.le hE (fun j hj => stoClean_men hoc h2 j hj) (hsm i h1) fun B cc hB => ?_
        have hlt := hob.lt hB
        have hn := hnot h2 hB
        refine ⟨hret.kept.block B hlt hn, ?_⟩
        have hn0 : σ B = none := by
          cases e with
          | box cs => obtain ⟨_, _, _, _, q1, _, _, q4⟩ := hob; rw [hB] at q1; cases q1; exact q4
          | row k b xs =>
            rcases hob with ⟨_, q⟩ | ⟨_, _, _, _, _, q1, _, _, _, _, _, _, _, _, q4⟩
            · rw [hB] at q; cases q
            · rw [hB] at q1; cases q1; exact q4
          | map kg vg es => obtain ⟨_, _, _, q1, _, _, q4⟩ := hob; rw [hB] at q1; cases q1; exact q4
          | loop li fr st p => obtain ⟨_, _, _, q1, _, _, _, q4⟩ := hob; rw [hB] at q1; cases q1; exact q4
        rw [hn0]
        cases hσ : σ' B with
        | none => rfl
        | some x =>
          rcases hret.fresh B (by rw [hσ]; simp) with q | q | q
          · exact absurd hn0 q
          · exact absurd hlt (by simp only at q ⊢; omega)
          · exact absurd q hn
      · refine ObjRep.mv (s := s') (fun j hj => ?_) (hpin i h1) (hret.inv.obj _ _ h2)
        obtain ⟨e2, he2⟩ := hasK_look (aoIn_men (stoIn_look hin' h2) j hj)
        have hj2 := hs' _ _ he2
        exact ⟨look_big ho hj2, hpin j hj2⟩
    · rcases hsplit hi with ⟨h1, h2⟩ | ⟨h1, h2⟩ <;> rcases hsplit hi' with ⟨h3, h4⟩ | ⟨h3, h4⟩
      · rw [hsm i h1] at hp; rw [hsm i' h3] at hp'; exact hr.inv.inj _ _ _ _ _ _ (hownl h2) (hownl h4) hne hp hp'
      · rw [hsm i h1] at hp; rw [hpin i' h3] at hp'
        rcases hret.mine _ _ _ h4 hp' with q | q
        · have := (hr.inv.obj _ _ (hownl h2)).lt hp; omega
        · intro e0; exact hnot h2 hp (e0 ▸ q)
      · rw [hpin i h1] at hp; rw [hsm i' h3] at hp'
        rcases hret.mine _ _ _ h2 hp with q | q
        · have := (hr.inv.obj _ _ (hownl h4)).lt hp'; omega
        · intro e0; exact hnot h4 hp' (e0 ▸ q)
      · rw [hpin i h1] at hp; rw [hpin i' h3] at hp'; exact hret.inv.inj _ _ _ _ _ _ h2 h4 hne hp hp'
  have hMc : ∀ {b}, MOf φ s b → c.w0.heap.size ≤ b ∨ c.M b := by
    intro b hb
    obtain ⟨j, e', q, h1, h2, h3, rfl⟩ := hM _ hb
    exact hr.mine _ _ _ h1 h3
  refine hr.putTo (st' := ⟨fr, o1 ++ s'⟩) hd (Sig.le_trans hr.le hret.le) (fun b hb => ?_) hinv (fun i e p hi hp => ?_) ⟨hret.kept.os.trans hr.fra.os, hret.kept.tape.trans hr.fra.tape, hret.kept.output.trans hr.fra.output, Nat.le_trans hr.fra.size hret.kept.size, Nat.le_trans hr.fra.drawn hret.kept.drawn, fun b hb hM' => ?_⟩ (fun i hi => (hpin i hi.1).trans ((hret.pin i hi).trans (hr.pin i hi)))
    (fun _ => flatV_rep hfl hret.rep) (fun t x _ hx => ⟨x, hx, fun z hz => ?_⟩)
  · rcases hret.fresh b hb with q | q | q
    · exact hr.fresh b q
    · exact .inr (.inl (Nat.le_trans hr.fra.size q))
    · exact .inr (hMc q)
  · rcases hsplit hi with ⟨h1, h2⟩ | ⟨h1, h2⟩
    · rw [hsm i h1] at hp; exact hr.mine _ _ _ (hownl h2) hp
    · rw [hpin i h1] at hp
      rcases hret.mine _ _ _ h2 hp with q | q
      · exact .inl (Nat.le_trans hr.fra.size q)
      · exact hMc q
  · rw [hret.kept.block b (Nat.lt_of_lt_of_le hb hr.fra.size) (fun hm => ?_)]
    · exact hr.fra.block b hb hM'
    · rcases hMc hm with q | q
      · omega
      · exact hM' q
  · exact RepV.ext hret.le hE (fun i hi => avClean_men (frClean_look hfc hx) i hi) hz
theorem repL_pinned {o1 s : Sto} (ho : keysLt 1000000 o1 = true) (hs : bigS s) : ∀ {avs : List AV} {vs : List Value}, avsIn s avs = true → All2 (RepV σ φ (o1 ++ s)) avs vs → All2 (RepV σ φ s) avs vs
  | [], [], _, _ => trivial
  | x :: r, v :: vs, h, ha => by
    simp only [avsIn, Bool.and_eq_true] at h
    refine ⟨RepV.mv (fun i hi => ⟨?_, rfl⟩) ha.1, repL_pinned ho hs h.2 ha.2⟩
    obtain ⟨e, he⟩ := hasK_look (avIn_men h.1 i hi)
    rw [look_big ho (hs _ _ he)]
  | [], _ :: _, _, ha => ha.elim
  | _ :: _, [], _, ha => ha.elim
theorem s_callW (o1 : Sto) {d : Nat} {s s' : Sto} {fop : Operand} {args : Array Operand} {ats : Array TypeId} {f : FuncId} {avs : List AV} {rav : AV} (hC : CallA P f avs s rav s') (hs : bigS s) (hs' : bigS s') (hin : stoIn s s = true) (hin' : stoIn s' s' = true) (hlp : isLoop s) (hlp' : isLoop s')
    (hsto : sto = o1 ++ s) (ho : o.op = .call { callee := .value fop, args := args, argTypes := ats }) (hg : o.guard = none) (hdst : o.dst = some d) (hd : Nat.blt d n = true) (hf : ev ⟨fr, sto⟩ fop = some (.one (.d (.fn f []))))
    (ha : evL ⟨fr, sto⟩ args.toList = some avs) (hai : avsIn s avs = true) (hk : (keysLt 1000000 o1 && stoClean o1 && frClean fr) = true) (hfl : flatV rav = true)
    (h : OkOps P ⟨w0, σ0, φ0, M, n, rd, mk⟩ ops rest ⟨(d, rav) :: fr, o1 ++ s'⟩ K) : OkOps P ⟨w0, σ0, φ0, M, n, rd, mk⟩ ops (o :: rest) ⟨fr, sto⟩ K := by
  subst hsto
  refine okops_enter hg fun a w σ φ hr => ?_
  have hfr := ev_rep hr hf
  replace hfr := RepC.d_inv hfr
  generalize hfe : a.eval fop = fv at hfr
  have hk' := hk
  simp only [Bool.and_eq_true] at hk'
  cases hfr with
  | fn cs hl hcs =>
    have : cs = [] := by cases cs with | nil => rfl | cons _ _ => simp at hl
    subst this
    have hargs := repL_pinned hk'.1.1 hs hai (evL_rep hr ha)
    refine ⟨f, _, _, run_call ho hfe hC.fn, hC.run w σ φ _ (HInv.pinned hk'.1.1 hs hin hr.inv) (by rw [List.append_nil]; exact hargs), ?_⟩
    rintro e w' ⟨v, σ', φ', rfl, hret⟩
    refine ⟨v, _, σ', _, rfl, hr.callW (dst := o.dst) (by rw [hdst]; exact hd) hk hs hs' hin' hlp hlp' hfl hret, ?_⟩
    rw [hdst]; exact h
theorem s_yieldW (o1 : Sto) {d : Nat} {s s' : Sto} {fop : Operand} {args : Array Operand} {ats : Array TypeId} {avs : List AV} {rav : AV} (hY : YieldA P 1000000 avs s rav s') (hs : bigS s) (hs' : bigS s') (hin : stoIn s s = true) (hin' : stoIn s' s' = true) (hlp : isLoop s) (hlp' : isLoop s')
    (hsto : sto = o1 ++ s) (hrd : rd = none) (ho : o.op = .call { callee := .value fop, args := args, argTypes := ats }) (hg : o.guard = none) (hdst : o.dst = some d) (hd : Nat.blt d n = true) (hf : ev ⟨fr, sto⟩ fop = some (.one (.yl 1000000)))
    (ha : evL ⟨fr, sto⟩ args.toList = some avs) (hai : avsIn s avs = true) (hk : (keysLt 1000000 o1 && stoClean o1 && frClean fr) = true) (hfl : flatV rav = true)
    (h : OkOps P ⟨w0, σ0, φ0, M, n, rd, mk⟩ ops rest ⟨(d, rav) :: fr, o1 ++ s'⟩ K) : OkOps P ⟨w0, σ0, φ0, M, n, rd, mk⟩ ops (o :: rest) ⟨fr, sto⟩ K := by
  subst hsto
  intro a w σ φ Q hr hQ
  have hk' := hk
  simp only [Bool.and_eq_true] at hk'
  have hfr : RepC σ φ (o1 ++ s) (.yl 1000000) (a.eval fop) := ev_rep hr hf
  generalize hfe : a.eval fop = fv at hfr
  obtain ⟨li, lf, ls, lp, hL⟩ := hlp
  have hl0 : look (o1 ++ s) 1000000 = some (.loop li lf ls lp) := by rw [look_big hk'.1.1 (Nat.le_refl _)]; exact hL
  cases hfr with
  | dead hxx _ => simp [acIn, hasK, hl0] at hxx
  | yl hl hp =>
    rename_i B cap li2 fr2 s2 p2
    obtain ⟨fn, tmps, assign, body, hy, hR⟩ := hY.run w σ φ _ B cap (HInv.pinned hk'.1.1 hs hin hr.inv) hp (repL_pinned hk'.1.1 hs hai (evL_rep hr ha))
    refine wpListIn_plain hg fun K' hK => ⟨fun f _ => fnc_fn _ f, ?_⟩
    rw [semAt_run (by simp) (run_yield ho hfe hy), Oper.uponIn_round, fnc_none (c := ⟨w0, σ0, φ0, M, n, rd, mk⟩) hrd]
    refine ⟨fun h => by simp [Fence.wide] at h, hR.mono fun e w' he => ?_⟩
    obtain ⟨v, σ', φ', rfl, hret⟩ := he
    refine hK _ _ (h _ _ σ' (fun i => if 1000000 ≤ i then φ' i else φ i) _ ?_ hQ)
    have := hr.callW (dst := o.dst) (by rw [hdst]; exact hd) hk hs hs' hin' ⟨li, lf, ls, lp, hL⟩ hlp' hfl hret
    rw [hdst] at this ⊢; exact this
end Go.Abs
namespace Go.Abs
open Go
variable {P : Program} {V : Env} {T : Tab} {c : Ctx} {w0 : World} {σ0 : Sig} {φ0 : Pl} {M : Nat → Prop} {n : Nat} {rd : Option Nat} {mk : List Deferred} {ops : Array Oper} {o : Oper} {rest : List Oper} {fr : List (Nat × AV)} {sto : Sto} {K : St → Prop} {st st0 : St} {acc : List Tr}
theorem step3_idxArr {t : TypeId} {x y : Operand} {a b v : AV} (ho : o.op = .index t x y) (hs : stepE V.T st o 0 = none) (hx : ev st x = some a) (hy : ev st y = some b) (h : idxA V.T t (some b) (some a) = some v) : step3 V st o 0 = some ⟨v, [], []⟩ := by
  simp only [step3, hs, ho, hx, hy, h]
theorem d_new (hV : EnvOk P V) (id : Nat) {d : Nat} {v : AV} {wr : List (Nat × Option AObj)} {nw : List Nat} (hg : o.guard = none) (hdst : o.dst = some d) (hd : Nat.blt d c.n = true) (h : step3 V ⟨fr, sto⟩ o id = some ⟨v, wr, nw⟩) (hid : Nat.blt (id + 1) 1000000 = true) (hf : freshLB ⟨fr, sto⟩ nw = true)
    (k : DRun P c ops st0 rest ⟨(d, v) :: fr, appW wr sto⟩ (⟨v, wr, riOf ⟨fr, sto⟩ o.op, nw⟩ :: acc) K) : DRun P c ops st0 (o :: rest) ⟨fr, sto⟩ acc K :=
  d_run hg (loc_step3 hV (by rw [hdst]; exact hd) h hid) (by rw [hdst]; exact k)
theorem d_store (hV : EnvOk P V) {v : AV} {wr : List (Nat × Option AObj)} (hg : o.guard = none) (hdst : o.dst = none) (h : step3 V ⟨fr, sto⟩ o 0 = some ⟨v, wr, []⟩)
    (k : DRun P c ops st0 rest ⟨fr, appW wr sto⟩ (⟨v, wr, riOf ⟨fr, sto⟩ o.op, []⟩ :: acc) K) : DRun P c ops st0 (o :: rest) ⟨fr, sto⟩ acc K :=
  d_run hg (loc_step3 hV (by rw [hdst]; rfl) h rfl) (by rw [hdst]; exact k)
def OkR (P : Program) (c : Ctx) (bl : Nat) (g : Operand) (ps : Array Nat) (assign body rest : Code) (st : St) (Q : Exit → St → Prop) : Prop :=
  ∀ (a : Act) (w : World) (σ : Sig) (φ : Pl), Rel c st a w σ φ → (Code.block bl (.rangeFunc g ps assign body)).wpIn (fnc c) 0 P
    (Exit.then (rest.wpIn (fnc c) 0 P fun e a' w' => ∃ st' σ' φ', Q e st' ∧ RelE c e st' a' w' σ' φ') fun e a' w' => ∃ st' σ' φ', Q e st' ∧ RelE c e st' a' w' σ' φ') a w
def normQ (R : St → Prop) (e : Exit) (st : St) : Prop := e = .normal ∧ R st
theorem norm_n {R : St → Prop} (h : R st) : normQ R .normal st := ⟨rfl, h⟩
def retQ (Q : Exit → St → Prop) (e : Exit) (st : St) : Prop := e = .ret ∧ Q .ret st
theorem retq_n {Q : Exit → St → Prop} (h : Q .ret st) : retQ Q .ret st := ⟨rfl, h⟩
theorem ok_stopR2 {bl : Nat} {g : Operand} {ps : Array Nat} {x assign body rest : Code} {Q : Exit → St → Prop} (h : OkC P c x st (normQ fun st1 => OkR P c bl g ps assign body rest st1 Q)) : OkC P c (.seq (.seq x (.block bl (.rangeFunc g ps assign body))) rest) st Q := by
  intro a w σ φ hr
  refine wpIn_seq (wpIn_seq (wpIn_mono (h a w σ φ hr) ?_))
  rintro e a1 w1 ⟨st1, σ1, φ1, ⟨rfl, hR⟩, hre⟩
  exact hR a1 w1 σ1 φ1 (hre.rel (by simp))
theorem ok_rangeS {g : Operand} {ps : Array Nat} {assign body rest : Code} {bl : Nat} {Q : Exit → St → Prop} {f : FuncId} {caps : List D} {os : List (Nat × AObj)} {rav : AV} {liR : LI} {frR : List (Nat × AV)} {s' : LoopState} {p' : Option Code} {rs : Sto} (ids : List Nat) (idl : Nat)
    (hrd : c.rd = none) (hmk : c.mks = []) (hg : ev st g = some (.one (.d (.fn f caps)))) (hos : objsM st.sto ids = some os)
    (hC : CallA P f ((.one (.yl 1000000)) :: caps.map fun x => .one (.d x)) ((1000000, .loop ⟨c.n, ps, assign, body⟩ (renFr (inv 1000000 (idl :: ids)) (liveFr ids st.fr [])) .ready none) :: csOf (inv 1000000 (idl :: ids)) os) rav ((1000000, .loop liR frR s' p') :: rs))
    (hb : rangeB st ids idl ⟨c.n, ps, assign, body⟩ os caps rav 1000000 liR frR s' p' rs = true)
    (h1 : p' = none → ∀ c1, Good c c1 → OkC P c1 rest ⟨st.fr, afterLoop (idl + 1) (rhoOf 1000000 (idl :: ids)) rs st.sto⟩ (retQ Q))
    (h2 : p' = some .ret → Q .ret ⟨st.fr, afterLoop (idl + 1) (rhoOf 1000000 (idl :: ids)) rs st.sto⟩) : OkR P c bl g ps assign body rest st Q := by
  intro a w σ φ hr
  unfold rangeB at hb
  simp only [Bool.and_eq_true, Bool.not_eq_true'] at hb
  obtain ⟨⟨⟨⟨⟨⟨⟨⟨hj, hall⟩, hni⟩, hcm⟩, hk⟩, hi⟩, hfr⟩, hbu⟩, hp⟩ := hb
  have hren : renFr (rn (idl + 1) (rhoOf 1000000 (idl :: ids))) (renFr (inv 1000000 (idl :: ids)) (liveFr ids st.fr [])) = liveFr ids st.fr [] :=
    renFr_inv fun i hi => rn_inv (by simp only [memL, Bool.or_eq_true]; exact .inr (liveFr_ids i hi))
  have hne : ∀ i ∈ ids, i ≠ idl := by
    intro i hmem e
    rw [e] at hmem
    rw [memL_iff.2 hmem] at hni; cases hni
  have e : renFr (rn (idl + 1) ((1000000, idl) :: rhoOf 1000001 ids)) (renFr (inv 1000000 (idl :: ids)) (liveFr ids st.fr [])) = liveFr ids st.fr [] := hren
  have hX := ok_rangeX (P := P) (c := c) (st := st) (g := g) (ps := ps) (assign := assign) (body := body) (k := idl + 1) (idl := idl) (ρ := rhoOf 1000001 ids) hrd hmk hg hC (fun s v hv => by rw [e] at hv; exact (liveFr_look hv).2)
    (objsM_pass (s := (idl, _) :: st.sto) ((objsM_cong (s := st.sto) fun i hi => look_ne (hne i hi)).trans hos) hall)
    (compatLB_ok (s := (idl, .loop ⟨c.n, ps, assign, body⟩ (liveFr ids st.fr []) .ready none) :: st.sto) (fun j i _ => by
      show look ((idl, AObj.loop _ _ _ _) :: st.sto) i = _
      rw [e]) hcm) hk (by
      rw [e]
      simp only [Bool.and_eq_true, Bool.not_eq_true']
      exact hi) (fun i h1 h2 => freshLB_ok hfr i (rng_mem.2 ⟨h1, h2⟩)) (by rintro rfl; cases hbu) (by
      unfold pOk at hp
      split at hp
      · exact .inl rfl
      · exact .inr rfl
      · cases hp) a w σ φ hr
  refine wpIn_block (wpIn_mono hX ?_)
  rintro x a' w' (⟨hp0, rfl, c1, σ', φ', hg1, hr1⟩ | ⟨hp0, rfl, σ', φ', hr1⟩)
  · have hc := h1 hp0 c1 hg1 a' w' σ' φ' hr1
    have hf : fnc c1 = fnc c := by rw [fnc_none hg1.2.1, fnc_none hrd]
    rw [hf] at hc
    refine wpIn_mono hc ?_
    rintro x a2 w2 ⟨s2, σ2, φ2, ⟨rfl, hq⟩, hre⟩
    refine ⟨s2, σ2, φ2, hq, ?_⟩
    rcases hre with h5 | ⟨_, r, _, _, _, h5⟩
    · exact hg1.2.2.2 _ _ _ _ _ h5
    · exact absurd h5.defers.symm hg1.2.2.1
  · exact ⟨_, σ', φ', h2 hp0, hr1⟩
structure FamW {α : Type} (E : α → Sto) : Prop where
  big : ∀ a, bigS (E a)
  ins : ∀ a, stoIn (E a) (E a) = true
  lp : ∀ a, isLoop (E a)
  nd : ∀ a, nodupL (keysL (E a)) = true
theorem subL_of {α : Type} {l : List (Nat × α)} : ∀ {t : List (Nat × α)}, (∀ q ∈ t, look l q.1 = some q.2) → SubL l t
  | [], _ => trivial
  | (i, x) :: t, h => ⟨h _ List.mem_cons_self, subL_of fun q hq => h q (List.mem_cons_of_mem _ hq)⟩
theorem mem_keys : ∀ {s : Sto} {q : Nat × AObj}, q ∈ s → memL q.1 (keysL s) = true
  | p :: r, q, h => by
    obtain ⟨i, x⟩ := p
    rcases List.mem_cons.1 h with rfl | h
    · simp [keysL, memL]
    · simp [keysL, memL, mem_keys h]
theorem look_nd : ∀ {s : Sto}, nodupL (keysL s) = true → ∀ q ∈ s, look s q.1 = some q.2
  | (i, x) :: r, h, q, hq => by
    simp only [keysL, nodupL, Bool.and_eq_true, Bool.not_eq_true'] at h
    rcases List.mem_cons.1 hq with rfl | hq
    · simp [look]
    · have hm := mem_keys hq
      have hne : Nat.beq i q.1 = false := by
        cases hb : Nat.beq i q.1 with
        | false => rfl
        | true =>
          have := Nat.eq_of_beq_eq_true hb
          subst this
          rw [h.1] at hm; cases hm
      simp only [look, hne, cond_false]
      exact look_nd h.2 q hq
theorem subL_big {o1 s : Sto} (ho : keysLt 1000000 o1 = true) (hs : bigS s) (hn : nodupL (keysL s) = true) : SubL (o1 ++ s) s :=
  subL_of fun q hq => by
    have h := look_nd hn q hq
    rw [look_big ho (hs _ _ h)]; exact h
theorem s_loopW {α β : Type} {E : α → Sto} (hE : FamW E) (g : β → α) {body : Code} {Q : Exit → St → Prop} (o1 : Sto) (kept : List (Nat × AV)) (hk : SubL fr kept) (L : β → List (Nat × AV)) (Inv : β → Prop) (μ : β → Nat) (x0 : β) (hsto : sto = o1 ++ E (g x0)) (ho : keysLt 1000000 o1 = true) (hL : SubL fr (L x0)) (h0 : Inv x0)
    (hround : ∀ x, Inv x → OkC P c body ⟨L x ++ kept, o1 ++ E (g x)⟩ (thenQ (fun st' => ∃ y o2, Inv y ∧ μ y < μ x ∧ st'.sto = o2 ++ E (g y) ∧ keysLt 1000000 o2 = true ∧ SubL o2 o1 ∧ SubL st'.fr (L y) ∧ SubL st'.fr kept) Q)) : OkC P c (.loop body) ⟨fr, sto⟩ Q := by
  subst hsto
  have hap : ∀ {f a b : List (Nat × AV)}, SubL f a → SubL f b → SubL f (a ++ b) := by
    intro f a b h1 h2
    induction a with
    | nil => exact h2
    | cons p r ih => exact ⟨h1.1, ih h1.2⟩
  have hdr : ∀ {f : List (Nat × AV)} {o2 s : Sto}, bigS s → keysLt 1000000 o2 = true → SubL o2 o1 → Imp c ⟨f, o2 ++ s⟩ ⟨f, o1 ++ s⟩ := fun hs h2 h a w σ φ hr => ⟨σ, φ, hr.dropTo fun i e hi => by
    show look (_ ++ _) i = some e
    rcases Nat.lt_or_ge i 1000000 with h3 | h3
    · rw [look_small hs h3] at hi ⊢; exact h.look hi
    · rw [look_big ho h3] at hi; rw [look_big h2 h3]; exact hi⟩
  refine okc_imp (st' := ⟨L x0 ++ kept, o1 ++ E (g x0)⟩) (imp_subL (hap hL hk)) ?_
  refine ok_loop (fun n st => ∃ x, Inv x ∧ n = μ x ∧ st = ⟨L x ++ kept, o1 ++ E (g x)⟩) (μ x0) ⟨x0, h0, rfl, rfl⟩ ?_
  rintro n st ⟨x, hx, rfl, rfl⟩
  refine ok_mono (hround x hx) fun e st h => ?_
  cases e with
  | normal =>
    obtain ⟨y, o2, hy, hlt, hs, h4, h5, h1, h2⟩ := h
    obtain ⟨f, s⟩ := st
    simp only at hs h1 h2
    subst hs
    exact ⟨μ y, _, hlt, ⟨y, hy, rfl, rfl⟩, Imp.trans (imp_subL (hap h1 h2)) (hdr (hE.big (g y)) h4 h5)⟩
  | _ => exact h
def fitG (r : Nat → Nat) : List Nat → Bool
  | [] => true
  | i :: l => (!(Nat.ble 1000000 (r i) && Nat.blt (r i) 2000000) || Nat.beq (r i) i) && fitG r l
theorem fitG_ok {r : Nat → Nat} : ∀ {l : List Nat}, fitG r l = true → ∀ {i : Nat}, i ∈ l → Pin (r i) → r i = i
  | j :: l, h, i, hi, hb => by
    simp only [fitG, Bool.and_eq_true, Bool.or_eq_true, Bool.not_eq_true'] at h
    rcases List.mem_cons.1 hi with rfl | hi
    · rcases h.1 with h1 | h1
      · rw [Nat.ble_eq.mpr hb.1, Nat.blt_eq.mpr hb.2] at h1; cases h1
      · exact Nat.eq_of_beq_eq_true h1
    · exact fitG_ok h.2 hi hb
theorem imp_ren (r : Nat → Nat) (hk : (nodupL (keysL sto) && nodupL (mapN r (keysL sto)) && fitG r (keysL sto) && stoIn sto sto && frIn sto fr) = true) : Imp c ⟨fr, sto⟩ ⟨renFr r fr, renS r sto⟩ := by
  intro a w σ φ hr
  simp only [Bool.and_eq_true] at hk
  obtain ⟨⟨⟨⟨h1, h2⟩, h3⟩, h4⟩, h5⟩ := hk
  classical
  let φ' : Pl := fun t => if h : ∃ i, i ∈ keysL sto ∧ r i = t then φ h.choose else φ t
  have hφ : ∀ {i : Nat}, i ∈ keysL sto → φ' (r i) = φ i := by
    intro i hi
    have hex : ∃ j, j ∈ keysL sto ∧ r j = r i := ⟨i, hi, rfl⟩
    show (if h : ∃ j, j ∈ keysL sto ∧ r j = r i then φ h.choose else φ (r i)) = φ i
    rw [dif_pos hex]
    have := hex.choose_spec
    rw [nodup_inj h2 this.1 hi this.2]
  have hR : ∀ j o, look sto j = some o → look (renS r sto) (r j) = some (renO r o) ∧ φ' (r j) = φ j := fun j o hj => ⟨renS_look h2 hj, hφ (look_key hj)⟩
  refine ⟨σ, φ', hr.le, hr.fresh, ⟨hr.inv.sig, fun t e ht => ?_, fun t t' e e' p p' ht ht' hne hp hp' => ?_⟩, fun t e p ht hp => ?_, fun s v hv => ?_, hr.defers, hr.size, hr.fra, fun t ht => ?_⟩
  · obtain ⟨i, o, rfl, hi, rfl⟩ := look_renS h1 ht
    exact reObj hR hi (stoIn_look h4 hi) (hr.inv.obj _ _ hi)
  · obtain ⟨i, o, rfl, hi, rfl⟩ := look_renS h1 ht
    obtain ⟨i', o', rfl, hi', rfl⟩ := look_renS h1 ht'
    rw [(hR _ _ hi).2] at hp
    rw [(hR _ _ hi').2] at hp'
    exact hr.inv.inj _ _ _ _ _ _ hi hi' (fun e => hne (by rw [e])) hp hp'
  · obtain ⟨i, o, rfl, hi, rfl⟩ := look_renS h1 ht
    rw [(hR _ _ hi).2] at hp
    exact hr.mine _ _ _ hi hp
  · rw [look_renFr] at hv
    cases hl : look fr s with
    | none => rw [hl] at hv; cases hv
    | some v0 =>
      rw [hl] at hv; cases hv
      obtain ⟨u, hu, hru⟩ := hr.slot s v0 hl
      exact ⟨u, hu, reV hR (frIn_look h5 hl) hru⟩
  · show (if h : ∃ j, j ∈ keysL sto ∧ r j = t then φ h.choose else φ t) = _
    split
    · rename_i hex
      have hs := hex.choose_spec
      have := fitG_ok h3 hs.1 (by rw [hs.2]; exact ht)
      rw [hs.2] at this
      rw [← this]; exact hr.pin t ht
    · exact hr.pin t ht
theorem stoMen_app {i : Nat} : ∀ {a b : Sto}, stoMen i (a ++ b) = (stoMen i a || stoMen i b)
  | [], _ => by simp [stoMen]
  | p :: r, b => by simp only [List.cons_append, stoMen, stoMen_app (a := r), Bool.or_assoc]
theorem stoMen_big {s t : Sto} (hs : bigS s) {i : Nat} (hi : i < 1000000) : ∀ {l : Sto}, stoIn s l = true → stoMen i l = false
  | [], _ => rfl
  | (j, e) :: r, h => by
    simp only [stoIn, Bool.and_eq_true] at h
    simp only [stoMen]
    rw [stoMen_big (t := t) hs hi h.2, Bool.or_false]
    cases hm : e.men i with
    | false => rfl
    | true =>
      obtain ⟨e', he⟩ := hasK_look (aoIn_men h.1 i hm)
      have := hs _ _ he; omega
theorem freshW {o1 s : Sto} (hs : bigS s) (hin : stoIn s s = true) {id : Nat} (h : (Nat.blt id 1000000 && (!hasK o1 id && !frMen id fr && !stoMen id o1)) = true) : (Nat.blt id 1000000 && (!hasK (o1 ++ s) id && !frMen id fr && !stoMen id (o1 ++ s))) = true := by
  simp only [Bool.and_eq_true, Bool.not_eq_true', Nat.blt_eq] at h ⊢
  obtain ⟨h1, ⟨h2, h3⟩, h4⟩ := h
  refine ⟨h1, ⟨?_, h3⟩, ?_⟩
  · unfold hasK at h2 ⊢; rw [look_small hs h1]; exact h2
  · rw [stoMen_app, h4, stoMen_big (t := s) hs h1 hin]; rfl
theorem s_boxW (o1 : Sto) (id : Nat) {s : Sto} (hs : bigS s) (hin : stoIn s s = true) {d : Nat} {t : TypeId} {x : Operand} {v : AV} {cs : List AC} (hsto : sto = o1 ++ s) (ho : o.op = .box t x) (hg : o.guard = none) (hdst : o.dst = some d) (hdn : Nat.blt d n = true) (hd : (Nat.blt id 1000000 && (!hasK o1 id && !frMen id fr && !stoMen id o1)) = true)
    (hx : ev ⟨fr, sto⟩ x = some v) (hc : (match cellsOf v with | some cs' => bif acsMen id cs' then none else some cs' | none => none) = some cs)
    (h : OkOps P ⟨w0, σ0, φ0, M, n, rd, mk⟩ ops rest ⟨(d, .one (.ref id 0)) :: fr, (id, .box cs) :: sto⟩ K) : OkOps P ⟨w0, σ0, φ0, M, n, rd, mk⟩ ops (o :: rest) ⟨fr, sto⟩ K := by
  subst hsto
  exact s_box id ho hg hdst (by rw [hdn, Bool.true_and]; exact freshW hs hin hd) hx hc h
theorem s_allocW (hT : TabOk P T) (o1 : Sto) (id : Nat) {s : Sto} (hs : bigS s) (hin : stoIn s s = true) {d : Nat} {t : TypeId} {td : TD} (hsto : sto = o1 ++ s) (ho : o.op = .alloc t) (hg : o.guard = none) (hdst : o.dst = some d) (hdn : Nat.blt d n = true) (hd : (Nat.blt id 1000000 && (!hasK o1 id && !frMen id fr && !stoMen id o1)) = true) (ht : look T t = some td)
    (h : OkOps P ⟨w0, σ0, φ0, M, n, rd, mk⟩ ops rest ⟨(d, .one (.ref id 0)) :: fr, (id, .box (td.zero.map .d)) :: sto⟩ K) : OkOps P ⟨w0, σ0, φ0, M, n, rd, mk⟩ ops (o :: rest) ⟨fr, sto⟩ K := by
  subst hsto
  exact s_alloc hT id ho hg hdst (by rw [hdn, Bool.true_and]; exact freshW hs hin hd) ht h
theorem yl_in {s : Sto} (h : isLoop s) : hasK s 1000000 = true := by
  obtain ⟨li, fr, st, p, h⟩ := h
  simp [hasK, h]
theorem ret_leafW {rs : List ResultVar} {rav rav' : AV} {rsto s : Sto} {e : Exit} {l : List (Bool × List AC)} (o1 : Sto) (he : e = .ret ∨ e = .normal) (hsto : sto = o1 ++ s) (hl : resL T ⟨fr, sto⟩ rs = some l) (hr : resAV l = some rav') (h : rav' = rav ∧ s = rsto) (ho : keysLt 1000000 o1 = true) (hs : bigS s) (hn : nodupL (keysL s) = true) : RetQ T rs rav rsto e ⟨fr, sto⟩ := by
  obtain ⟨h1, rfl⟩ := h
  subst hsto
  exact ⟨he, l, hl, by rw [hr, h1], subL_big ho hs hn⟩
def AssignQ (P : Program) (id : Nat) (c : Ctx) (body : Code) (rav : AV) (rsto : Sto) (e : Exit) (st : St) : Prop :=
  e = .normal ∧ ∃ li1 fr1, look st.sto id = some (.loop li1 fr1 .ready none) ∧ OkC P c body ⟨st.fr, setS id (.loop li1 fr1 .busy none) st.sto⟩ (RoundQ id rav rsto)
theorem assign_n {id : Nat} {body : Code} {rav : AV} {rsto : Sto} {li1 : LI} {fr1 : List (Nat × AV)} (hl : look st.sto id = some (.loop li1 fr1 .ready none)) (h : OkC P c body ⟨st.fr, setS id (.loop li1 fr1 .busy none) st.sto⟩ (RoundQ id rav rsto)) : AssignQ P id c body rav rsto .normal st := ⟨rfl, _, _, hl, h⟩
theorem round_n {id : Nat} {rav : AV} {rsto : Sto} {li : LI} {fr1 : List (Nat × AV)} {p : Option Code} (hl : look st.sto id = some (.loop li fr1 .busy p)) (hr : rav = .one (.d (.bool true))) (hs : SubL (setS id (.loop li fr1 .ready none) st.sto) rsto) : RoundQ id rav rsto .normal st :=
  ⟨li, fr1, p, hl, .inl ⟨rfl, hr, hs⟩⟩
theorem round_j {id : Nat} {rav : AV} {rsto : Sto} {li : LI} {fr1 : List (Nat × AV)} {p : Option Code} {e : Exit} {j : Code} (hl : look st.sto id = some (.loop li fr1 .busy p)) (hj : jumpOf e = some j) (hr : rav = .one (.d (.bool false))) (hs : SubL (setS id (.loop li fr1 .done (some j)) st.sto) rsto) : RoundQ id rav rsto e st :=
  ⟨li, fr1, p, hl, .inr ⟨j, hj, hr, hs⟩⟩
theorem yieldA_ok {id : Nat} {li : LI} {fr : List (Nat × AV)} {args : List AV} {sto : Sto} {rav : AV} {rsto : Sto} (hid : Pin id) (hl : look sto id = some (.loop li fr .ready none))
    (hps : (allBlt li.n li.params.toList && Nat.beq li.params.toList.length args.length) = true)
    (h : ∀ (w0 : World) (σ0 : Sig) (φ0 : Pl) (M : Nat → Prop) (B : Nat), OkC P ⟨w0, σ0, φ0, M, li.n, some B, []⟩ li.assign ⟨roundFr li.params.toList args fr, sto⟩ (AssignQ P id ⟨w0, σ0, φ0, M, li.n, some B, []⟩ li.body rav rsto)) : YieldA P id args sto rav rsto := yieldA_of_ok hid hl hps h
end Go.Abs
namespace Go.Abs
open Go
variable {P : Program} {V : Env} {T : Tab} {c : Ctx} {st st0 : St} {σ σ' : Sig} {φ φ' : Pl} {w w' : World}
theorem wl_run {ops : Array Oper} {o : Oper} {rest : List Oper} {a : Act} {Q : Exit → Act → World → Prop} {u : Value} (hg : o.guard = none) (hrun : (execOp a.eval o).run P w = .ok (.value u) w') (h : wpListIn (fnc c) 0 P ops Q rest (a.put o.dst u) w') : wpListIn (fnc c) 0 P ops Q (o :: rest) a w := by
  refine wpListIn_plain hg fun K' hK => ⟨fun f _ => fnc_fn c f, ?_⟩
  rw [semAt_run (by simp) hrun]
  exact hK _ _ h
theorem run_next_over {s : ByteArray} {pos r : Nat} {ty : TypeId} (hh : w.heap[r]? = some (.stringIter s pos)) (h : ¬ pos < s.size) : (Instr.next (.pointer (some ⟨r, 0, none⟩)) true ty).run P w = .ok (.tuple #[.bool false]) w := by
  simp [Instr.next, getObj, Sem.run, hh, Result.andThen, h]
theorem run_next_more {s : ByteArray} {pos r : Nat} {ty : TypeId} (hh : w.heap[r]? = some (.stringIter s pos)) (h : pos < s.size) : (Instr.next (.pointer (some ⟨r, 0, none⟩)) true ty).run P w =
    .ok (.tuple #[.bool true, .int .i64 pos, .int .i32 (Utf8.decode s pos).1]) { w with heap := w.heap.setIfInBounds r (.stringIter s (pos + (Utf8.decode s pos).2)) } := by
  simp [Instr.next, getObj, setObj, Sem.run, hh, Result.andThen, h, goInt]
theorem decode_wide (s : ByteArray) (pos : Nat) (h : pos < s.size) : 1 ≤ (Utf8.decode s pos).2 := by
  by_cases ha : (s[pos]'h).toNat < 128
  · rw [decode_ascii s pos h ha]; exact Nat.le_refl _
  · exact (decode_high s pos h (by omega)).2
theorem Rel.iter {fr : List (Nat × AV)} {a : Act} {r : Nat} {s : ByteArray} {p q : Nat} (hr : Rel c ⟨fr, []⟩ a w σ φ) (hh : w.heap[r]? = some (.stringIter s p)) (hn : c.w0.heap.size ≤ r) :
    Rel c ⟨fr, []⟩ a { w with heap := w.heap.setIfInBounds r (.stringIter s q) } σ φ := by
  refine ⟨hr.le, hr.fresh, ⟨fun b cs hb => ?_, fun i e hi => by simp [look] at hi, fun i i' e e' p p' hi => by simp [look] at hi⟩, fun i e p hi => by simp [look] at hi, hr.slot, hr.defers, hr.size, ⟨hr.fra.os, hr.fra.tape, hr.fra.output, ?_, hr.fra.drawn, fun b hb hm => ?_⟩, hr.pin⟩
  · obtain ⟨t, f, h1⟩ := hr.inv.sig b cs hb
    refine ⟨t, f, ?_⟩
    have hne : r ≠ b := by rintro rfl; rw [hh] at h1; cases h1
    simp only [Array.getElem?_setIfInBounds_ne hne]; exact h1
  · simp only [Array.size_setIfInBounds]; exact hr.fra.size
  · have hne : r ≠ b := by omega
    simp only [Array.getElem?_setIfInBounds_ne hne]; exact hr.fra.block b hb hm
def runeOf (s : List UInt8) (k : Nat) : Int := ((Utf8.decode ⟨s.toArray⟩ k).1 : Nat)
def widthOf (s : List UInt8) (k : Nat) : Nat := (Utf8.decode ⟨s.toArray⟩ k).2
theorem rune_ascii {s : List UInt8} {k : Nat} {b : UInt8} (h : s[k]? = some b) (hb : b.toNat < 128) : runeOf s k = b.toNat ∧ widthOf s k = 1 := by
  obtain ⟨hl, he⟩ := List.getElem?_eq_some_iff.1 h
  have hk : k < (⟨s.toArray⟩ : ByteArray).size := by simpa [ByteArray.size] using hl
  have hg : (⟨s.toArray⟩ : ByteArray)[k]'hk = b := by
    show s.toArray[k]'(by simpa using hl) = b
    simpa using he
  have := decode_ascii ⟨s.toArray⟩ k hk (by rw [hg]; exact hb)
  unfold runeOf widthOf
  rw [this, hg]
  exact ⟨rfl, rfl⟩
theorem rune_high {s : List UInt8} {k : Nat} {b : UInt8} (h : s[k]? = some b) (hb : ¬ b.toNat < 128) : 128 ≤ runeOf s k := by
  obtain ⟨hl, he⟩ := List.getElem?_eq_some_iff.1 h
  have hk : k < (⟨s.toArray⟩ : ByteArray).size := by simpa [ByteArray.size] using hl
  have hg : (⟨s.toArray⟩ : ByteArray)[k]'hk = b := by
    show s.toArray[k]'(by simpa using hl) = b
    simpa using he
  have := (decode_high ⟨s.toArray⟩ k hk (by rw [hg]; omega)).1
  unfold runeOf; omega
theorem subL_skip {α : Type} {d : Nat} {v : α} {l : List (Nat × α)} : ∀ {kept : List (Nat × α)}, look kept d = none → SubL l kept → SubL ((d, v) :: l) kept
  | [], _, _ => trivial
  | (t, x) :: r, h, hs => by
    simp only [look] at h
    cases hb : Nat.beq t d with
    | true => rw [hb] at h; simp at h
    | false =>
      rw [hb] at h
      simp only [cond_false] at h
      refine ⟨?_, subL_skip h hs.2⟩
      have : Nat.beq d t = false := by
        cases hc : Nat.beq d t with
        | false => rfl
        | true => have := Nat.eq_of_beq_eq_true hc; subst this; rw [Nat.beq_refl] at hb; cases hb
      simp only [look, this, cond_false]
      exact hs.1
theorem RelE.back {fr : List (Nat × AV)} {st' : St} {a a' : Act} {e : Exit} (hmk : c.mks = []) (hr : Rel c ⟨fr, []⟩ a w σ φ) (h : RelE ⟨w, σ, φ, MOf φ [], c.n, c.rd, []⟩ e st' a' w' σ' φ') : RelE c e st' a' w' σ' φ' := by
  rcases h with h | ⟨he, r, h1, h2, h3, h4⟩
  · have hb := Rel.back (rd := c.rd) (mk := []) hr h
    have hd : a'.defers = [] := h.defers
    have : ({ a' with defers := c.mks } : Act) = a' := by rw [hmk, ← hd]
    rw [this] at hb
    exact .inl hb
  · have hb := Rel.back (rd := c.rd) (mk := []) hr h4
    rw [hmk] at hb
    exact .inr ⟨he, r, h1, h2, Nat.le_trans hr.fra.size h3, hb⟩
def strQ (bl : Nat) (Q : Exit → St → Prop) (I : Prop) (kept : List (Nat × AV)) (e : Exit) (st : St) : Prop := (e = .normal ∧ I ∧ SubL st.fr kept) ∨ (e ≠ .normal ∧ blockQ bl Q e st)
def overQ (bl : Nat) (Q : Exit → St → Prop) (e : Exit) (st : St) : Prop := e ≠ .normal ∧ blockQ bl Q e st
theorem strQ_n {bl : Nat} {Q : Exit → St → Prop} {I : Prop} {kept : List (Nat × AV)} (h : I) (hs : SubL st.fr kept) : strQ bl Q I kept .normal st := .inl ⟨rfl, h, hs⟩
theorem strQ_x {bl : Nat} {Q : Exit → St → Prop} {I : Prop} {kept : List (Nat × AV)} {e : Exit} (he : e ≠ .normal) (h : blockQ bl Q e st) : strQ bl Q I kept e st := .inr ⟨he, h⟩
theorem overQ_x {bl : Nat} {Q : Exit → St → Prop} {e : Exit} (he : e ≠ .normal) (h : blockQ bl Q e st) : overQ bl Q e st := ⟨he, h⟩
theorem ok_rangeStr {id1 id2 bl : Nat} {o0 o1 o2 : Oper} {l2 : List Oper} {body2 : Code} {fr kept : List (Nat × AV)} {Q : Exit → St → Prop} {d0 d1 d2 : Nat} {t : TypeId} {x0 : Operand} {s : List UInt8}
    (hmk : c.mks = []) (h0 : o0.op = .move x0) (hg0 : o0.guard = none) (hd0 : o0.dst = some d0) (hb0 : Nat.blt d0 c.n = true) (hx : ev ⟨fr, []⟩ x0 = some (.one (.d (.str s))))
    (h1 : o1.op = .range t (.tmp d0)) (hg1 : o1.guard = none) (hd1 : o1.dst = some d1) (hb1 : Nat.blt d1 c.n = true) (ht : P.underlying t = some .string)
    (h2 : o2.op = .next (.tmp d1) true) (hg2 : o2.guard = none) (hd2 : o2.dst = some d2) (hb2 : Nat.blt d2 c.n = true) (hne : Nat.beq d0 d1 = false)
    (hk : SubL fr kept) (hkd : look kept d0 = none) (hkd1 : look kept d1 = none) (hkd2 : look kept d2 = none) (Inv : Nat → Prop) (hi : Inv 0)
    (hmore : ∀ k, Inv k → k < s.length → ∀ (c2 : Ctx), c2.n = c.n → c2.rd = c.rd → c2.mks = [] → ∀ raw, OkOps P c2 (o2 :: l2).toArray l2 ⟨(d2, .tup [(false, [.d (.bool true)]), (false, [.d (.int .i64 k)]), (false, [.d (.int .i32 (runeOf s k))])]) :: (d1, .one (.d (.raw raw))) :: kept, []⟩
      (fun st' => OkC P c2 body2 st' (strQ bl Q (Inv (k + widthOf s k)) ((d1, .one (.d (.raw raw))) :: kept))))
    (hover : ∀ k, Inv k → s.length ≤ k → ∀ (c2 : Ctx), c2.n = c.n → c2.rd = c.rd → c2.mks = [] → ∀ raw, OkOps P c2 (o2 :: l2).toArray l2 ⟨(d2, .tup [(false, [.d (.bool false)])]) :: (d1, .one (.d (.raw raw))) :: kept, []⟩
      (fun st' => OkC P c2 body2 st' (overQ bl Q))) :
    OkC P c (.seq (.region id1 ⟨[o0, o1]⟩ false) (.block bl (.loop (.seq (.region id2 ⟨o2 :: l2⟩ false) body2)))) ⟨fr, []⟩ Q := by
  intro a w σ φ hr
  refine wpIn_seq (wpIn_region_list ?_)
  have hs := ev_rep hr hx
  replace hs := RepC.d_inv hs
  generalize hv : a.eval x0 = v at hs
  cases hs with
  | str hlen =>
  have hrun0 : (execOp a.eval o0).run P w = .ok (.value (.string ⟨s.toArray⟩)) w := by
    rw [← hv]; simp [execOp, h0]
  refine wl_run hg0 hrun0 ?_
  have hr1 : Rel c ⟨(d0, .one (.d (.str s))) :: fr, []⟩ (a.put o0.dst (.string ⟨s.toArray⟩)) w σ φ := by
    have := hr.putTo (dst := o0.dst) (v := .one (.d (.str s))) (u := .string ⟨s.toArray⟩) (st' := ⟨fr, []⟩) (by rw [hd0]; exact hb0) hr.le hr.fresh hr.inv hr.mine hr.fra hr.pin (fun _ => RepC.d (.str hlen)) (fun s x _ hx => ⟨x, hx, fun z hz => hz⟩)
    rw [hd0] at this ⊢; exact this
  generalize ha1 : a.put o0.dst (.string ⟨s.toArray⟩) = a1 at hr1
  have hv1 : a1.eval (.tmp d0) = .string ⟨s.toArray⟩ := by
    have h3 := ev_rep hr1 (x := .tmp d0) (v := .one (.d (.str s))) (by simp [ev, look])
    replace h3 := RepC.d_inv h3
    generalize a1.eval (.tmp d0) = v1 at h3
    cases h3; rfl
  let ptr : Value := .pointer (some ⟨w.heap.size, 0, none⟩)
  have hrun1 : (execOp a1.eval o1).run P w = .ok (.value ptr) (w.alloc (.stringIter ⟨s.toArray⟩ 0)) := by
    have h4 := run_range_string (P := P) w t ⟨s.toArray⟩ ht
    simp only [execOp, h1, hv1]
    simp only [Sem.run_bind, h4, Result.andThen_ok, Sem.run_pure]
    rfl
  refine wl_run hg1 hrun1 (wpListIn_nil ?_)
  have hrA := hr1.alien (.stringIter ⟨s.toArray⟩ 0)
  have hr2 : Rel c ⟨(d1, .one (.d (.raw ptr))) :: (d0, .one (.d (.str s))) :: fr, []⟩ (a1.put o1.dst ptr) (w.alloc (.stringIter ⟨s.toArray⟩ 0)) σ φ := by
    have := hrA.putTo (dst := o1.dst) (v := .one (.d (.raw ptr))) (u := ptr) (st' := ⟨(d0, .one (.d (.str s))) :: fr, []⟩) (by rw [hd1]; exact hb1) hrA.le hrA.fresh hrA.inv hrA.mine hrA.fra hrA.pin (fun _ => RepC.d (.raw rfl)) (fun s x _ hx => ⟨x, hx, fun z hz => hz⟩)
    rw [hd1] at this ⊢; exact this
  generalize a1.put o1.dst ptr = a2 at hr2
  have hold : c.w0.heap.size ≤ w.heap.size := hr.fra.size
  let r := w.heap.size
  have hr3 : Rel c ⟨(d1, .one (.d (.raw ptr))) :: kept, []⟩ a2 (w.alloc (.stringIter ⟨s.toArray⟩ 0)) σ φ :=
    ⟨hr2.le, hr2.fresh, hr2.inv, hr2.mine, fun s v hv => hr2.slot s v (SubL.look (l' := (d1, .one (.d (.raw ptr))) :: kept) ⟨by simp [look], subL_skip hkd1 (subL_skip hkd hk)⟩ hv), hr2.defers, hr2.size, hr2.fra, hr2.pin⟩
  refine wpIn_block (wpIn_loop (fun a w => ∃ k σ φ, Inv k ∧ Rel c ⟨(d1, .one (.d (.raw ptr))) :: kept, []⟩ a w σ φ ∧ w.heap[r]? = some (.stringIter ⟨s.toArray⟩ k)) (fun _ w => match w.heap[r]? with | some (.stringIter _ p) => s.length - p | _ => 0)
    ⟨0, σ, φ, hi, hr3, alloc_heap_new _ _⟩ ?_)
  clear hr3 hr2 hrA hr1 hrun1 hrun0 hv1 ha1 a1 a2
  rintro a w1 ⟨k, σ1, φ1, hI, hr4, hh⟩
  refine wpIn_seq (wpIn_region_list ?_)
  have hp : a.eval (.tmp d1) = ptr := by
    have h3 := ev_rep hr4 (x := .tmp d1) (v := .one (.d (.raw ptr))) (by simp [ev, look])
    replace h3 := RepC.d_inv h3
    generalize a.eval (.tmp d1) = v1 at h3
    cases h3; rfl
  have hsz : (⟨s.toArray⟩ : ByteArray).size = s.length := by simp [ByteArray.size]
  have fin : ∀ {w2 : World} {st2 : St} {a2 : Act} (hr5 : Rel c ⟨st2.fr, []⟩ a2 w2 σ1 φ1) (hst : st2.sto = []) {R : St → Prop} {K : Exit → St → Prop} (_ : ∀ st', R st' → OkC P ⟨w2, σ1, φ1, MOf φ1 [], c.n, c.rd, []⟩ body2 st' K)
      (_ : OkOps P ⟨w2, σ1, φ1, MOf φ1 [], c.n, c.rd, []⟩ (o2 :: l2).toArray l2 st2 R) {Z : Exit → Act → World → Prop}
      (_ : ∀ e a5 w5 st5 σ5 φ5, K e st5 → RelE ⟨w2, σ1, φ1, MOf φ1 [], c.n, c.rd, []⟩ e st5 a5 w5 σ5 φ5 → Z e a5 w5), wpListIn (fnc c) 0 P (o2 :: l2).toArray (Exit.then (body2.wpIn (fnc c) 0 P Z) Z) l2 a2 w2 := by
    intro w2 st2 a2 hr5 hst R K hR hO Z hZ
    have hd0 : a2.defers = [] := hr5.defers.trans hmk
    have hd : ({ a2 with defers := [] } : Act) = a2 := by rw [← hd0]
    have hr6 := hr5.anew [] c.rd
    rw [hd] at hr6
    obtain ⟨f2, s2⟩ := st2
    simp only at hst hr6
    subst hst
    refine hO a2 w2 σ1 φ1 _ hr6 fun a4 w4 σ4 φ4 st4 hK hr7 => ?_
    exact wpIn_mono (hR st4 hK a4 w4 σ4 φ4 hr7) fun e a5 w5 ⟨st5, σ5, φ5, hq, hre⟩ => hZ e a5 w5 st5 σ5 φ5 hq hre
  have leave : ∀ {e : Exit} {a5 : Act} {w5 : World} {st5 : St} {σ5 : Sig} {φ5 : Pl}, blockQ bl Q e st5 → RelE c e st5 a5 w5 σ5 φ5 → e ≠ .normal → Exit.inBlock bl (fun e a' w' => ∃ st' σ' φ', Q e st' ∧ RelE c e st' a' w' σ' φ') e a5 w5 := by
    intro e a5 w5 st5 σ5 φ5 hq hre hne
    cases e with
    | normal => exact absurd rfl hne
    | exit i =>
      simp only [blockQ] at hq
      cases hb : Nat.beq i bl with
      | true =>
        have hi := Nat.eq_of_beq_eq_true hb
        rw [hb] at hq
        simp only [Exit.inBlock]
        rw [if_pos hi]
        exact ⟨st5, σ5, φ5, hq, .inl (hre.rel (by simp))⟩
      | false =>
        have hi : i ≠ bl := by rintro rfl; rw [Nat.beq_refl] at hb; cases hb
        rw [hb] at hq
        simp only [Exit.inBlock]
        rw [if_neg hi]
        exact ⟨st5, σ5, φ5, hq, hre⟩
    | _ => exact ⟨st5, σ5, φ5, hq, hre⟩
  by_cases hlt : k < s.length
  · have hrun2 := run_next_more (P := P) (ty := o2.type) hh (by rw [hsz]; exact hlt)
    have hrun : (execOp a.eval o2).run P w1 = .ok (.value (.tuple #[.bool true, .int .i64 k, .int .i32 (Utf8.decode ⟨s.toArray⟩ k).1])) { w1 with heap := w1.heap.setIfInBounds r (.stringIter ⟨s.toArray⟩ (k + (Utf8.decode ⟨s.toArray⟩ k).2)) } := by
      simp only [execOp, h2, hp]
      simp only [Sem.run_bind, ptr]
      rw [show (⟨w.heap.size, 0, none⟩ : Addr) = ⟨r, 0, none⟩ from rfl, hrun2]
      rfl
    refine wl_run hg2 hrun ?_
    have hri := hr4.iter (q := k + (Utf8.decode ⟨s.toArray⟩ k).2) hh hold
    have hrl := decode_le ⟨s.toArray⟩ k
    have hr5 := hri.putTo (dst := o2.dst) (v := .tup [(false, [.d (.bool true)]), (false, [.d (.int .i64 k)]), (false, [.d (.int .i32 (runeOf s k))])]) (u := .tuple #[.bool true, .int .i64 k, .int .i32 (Utf8.decode ⟨s.toArray⟩ k).1]) (st' := ⟨(d1, .one (.d (.raw ptr))) :: kept, []⟩) (by rw [hd2]; exact hb2) hri.le hri.fresh hri.inv hri.mine hri.fra hri.pin
      (fun _ => ⟨[_, _, _], rfl, ⟨⟨.d .bool, trivial⟩, ⟨⟨.d (.int (by
        simp only [inR, IntKind.min, IntKind.max, IntKind.signed, IntKind.bits, if_true]; omega)), trivial⟩, ⟨⟨.d (.int (by
        simp only [inR, runeOf, IntKind.min, IntKind.max, IntKind.signed, IntKind.bits, if_true]; omega)), trivial⟩, trivial⟩⟩⟩⟩) (fun s x _ hx => ⟨x, hx, fun z hz => hz⟩)
    rw [hd2] at hr5 ⊢
    refine fin (st2 := ⟨_, []⟩) hr5 rfl (fun st' h => h) (hmore k hI hlt ⟨_, σ1, φ1, MOf φ1 [], c.n, c.rd, []⟩ rfl rfl rfl ptr) ?_
    rintro e a5 w5 st5 σ5 φ5 hq hre
    have hbk := RelE.back hmk hri hre
    rcases hq with ⟨rfl, hI', hsub⟩ | ⟨hne', hq⟩
    · have h6 := hbk.rel (by simp)
      have h7 := hre.rel (by simp)
      have hlt1 : r < w1.heap.size := (Array.getElem?_eq_some_iff.1 hh).1
      have h8 : w5.heap[r]? = some (.stringIter ⟨s.toArray⟩ (k + widthOf s k)) := by
        rw [h7.fra.block r (by simp only [Array.size_setIfInBounds]; exact hlt1) (by rintro ⟨id, e, p, h, _⟩; simp [look] at h)]
        simp [hlt1, widthOf]
      have h9 := h6.dropTo (s' := []) (by simp [look])
      refine ⟨⟨_, σ5, φ5, hI', ⟨h9.le, h9.fresh, h9.inv, h9.mine, fun s v hv => h9.slot s v (hsub.look hv), h9.defers, h9.size, h9.fra, h9.pin⟩, h8⟩, ?_⟩
      · simp only [h8, hh]
        have := decode_wide ⟨s.toArray⟩ k (by rw [hsz]; exact hlt)
        simp only [widthOf]
        omega
    · have := leave hq hbk hne'
      cases e <;> first | exact absurd rfl hne' | exact this
  · have hrun2 := run_next_over (P := P) (ty := o2.type) hh (by rw [hsz]; exact hlt)
    have hrun : (execOp a.eval o2).run P w1 = .ok (.value (.tuple #[.bool false])) w1 := by
      simp only [execOp, h2, hp]
      simp only [Sem.run_bind, ptr]
      rw [show (⟨w.heap.size, 0, none⟩ : Addr) = ⟨r, 0, none⟩ from rfl, hrun2]
      rfl
    refine wl_run hg2 hrun ?_
    have hr5 := hr4.putTo (dst := o2.dst) (v := .tup [(false, [.d (.bool false)])]) (u := .tuple #[.bool false]) (st' := ⟨(d1, .one (.d (.raw ptr))) :: kept, []⟩) (by rw [hd2]; exact hb2) hr4.le hr4.fresh hr4.inv hr4.mine hr4.fra hr4.pin
      (fun _ => ⟨[_], rfl, ⟨⟨.d .bool, trivial⟩, trivial⟩⟩) (fun s x _ hx => ⟨x, hx, fun z hz => hz⟩)
    rw [hd2] at hr5 ⊢
    refine fin (st2 := ⟨_, []⟩) hr5 rfl (fun st' h => h) (hover k hI (by omega) ⟨_, σ1, φ1, MOf φ1 [], c.n, c.rd, []⟩ rfl rfl rfl ptr) ?_
    rintro e a5 w5 st5 σ5 φ5 ⟨hne', hq⟩ hre
    have := leave hq (RelE.back hmk hr4 hre) hne'
    cases e <;> first | exact absurd rfl hne' | exact this
end Go.Abs
namespace Go.Proofs.YtpejdgkaapnekaaGreat
open Go Go.Abs
attribute [local irreducible] OkOps OkC DRun thenQ blockQ RetQ strQ overQ
set_option maxRecDepth 10000
theorem under9 : Tryz.prog.underlying 9 = some .string := by kernel_rfl
theorem odd_byte {s : List UInt8} {k : Nat} (h : k < s.length) : (decide (runeOf s k < 32) || decide (126 < runeOf s k)) = !okByte (at_ s k) := by
  have hb := at_get h
  by_cases ha : (at_ s k).toNat < 128
  · rw [(rune_ascii hb ha).1, Bool.eq_iff_iff]
    simp [okByte]
    omega
  · have := rune_high hb ha
    rw [Bool.eq_iff_iff]
    simp [okByte]
    omega
theorem ok_width {s : List UInt8} {k : Nat} (h : k < s.length) (hb : okByte (at_ s k) = true) : widthOf s k = 1 := by
  simp [okByte] at hb
  exact (rune_ascii (at_get h) (by omega)).2
theorem c341 (s : List UInt8) : CallA Tryz.prog 341 [.one (.d (.str s)), .one (.d (.fn 281 [])), .one (.d (.bool true))] [] (.one (.d (.int .i64 (idxGo (fun c => !okByte c) s 0)))) [] := by
  refine enter tabOk Tryz.func341 rfl (by decide +kernel) rfl fun hok w0 σ0 φ0 M => ?_
  have hl := hok.1.str; clear hok
  repeat' (first | (show OkOps _ _ _ _ _ _; first | refine okops_nil ?_ | refine s_plain tabOk rfl rfl rfl rfl rfl ?_ | fail) | (show OkC _ _ _ _ _; first | refine ok_rangeStr (kept := [(1, _), (2, _)]) rfl rfl rfl rfl rfl rfl rfl rfl rfl rfl under9 rfl rfl rfl rfl rfl (subL_cons rfl (subL_cons rfl subL_nil)) rfl rfl rfl (fun k => k ≤ s.length ∧ idxGo (fun c => !okByte c) s 0 = idxGo (fun c => !okByte c) (s.drop k) k) ⟨Nat.zero_le _, rfl⟩ ?_ ?_ | refine ok_seq ?_ | refine ok_region ?_ | fail) | (show thenQ _ _ _ _; first | refine then_n ?_ | fail) | fail)
  · rintro k ⟨hk, hi⟩ hlt ⟨w1, σ1, φ1, M1, n1, rd1, mk1⟩ hn hrd hmk raw
    dsimp only at hn hrd hmk
    subst hn hrd hmk
    repeat' (first | (show OkOps _ _ _ _ _ _; first | refine okops_nil ?_ | refine s_plain tabOk rfl rfl rfl rfl rfl ?_ | (show OkOps _ _ _ (Oper.mk _ (Op.call _) _ _ _ (_) :: _) _ _; first | refine s_callF rfl rfl rfl rfl rfl rfl rfl rfl (c281 _) rfl ?_ | fail) | fail) | (show OkC _ _ _ _ _; first | refine ok_seq ?_ | refine ok_region ?_ | refine ok_block ?_ | refine ok_skip ?_ | refine ok_ret ?_ | refine ok_condT rfl ?_ | refine ok_cond rfl (fun h => ?_) (fun h => ?_) | fail) | (show thenQ _ _ _ _; first | refine then_n ?_ | refine then_r ?_ | fail) | (show blockQ _ _ _ _; first | refine block_n ?_ | refine block_r ?_ | fail) | (show RetQ _ _ _ _ _ _; first | refine ret_leaf (.inl rfl) rfl rfl ?_ | fail) | (show strQ _ _ _ _ _ _; first | refine strQ_n ?_ (by first | exact subL_nil | exact (subL_cons rfl subL_nil) | exact (subL_cons rfl (subL_cons rfl subL_nil)) | exact (subL_cons rfl (subL_cons rfl (subL_cons rfl subL_nil))) | exact (subL_cons rfl (subL_cons rfl (subL_cons rfl (subL_cons rfl subL_nil)))) | exact (subL_cons rfl (subL_cons rfl (subL_cons rfl (subL_cons rfl (subL_cons rfl subL_nil))))) | exact (subL_cons rfl (subL_cons rfl (subL_cons rfl (subL_cons rfl (subL_cons rfl (subL_cons rfl subL_nil)))))) | exact (subL_cons rfl (subL_cons rfl (subL_cons rfl (subL_cons rfl (subL_cons rfl (subL_cons rfl (subL_cons rfl subL_nil)))))))) | refine strQ_x (by simp) ?_ | fail) | fail)
    · rw [odd_byte hlt] at h
      rw [hi, at_drop hlt]
      simp at h
      simp [idxGo, h]
    · rw [odd_byte hlt] at h
      have hb : okByte (at_ s k) = true := by simpa using h
      rw [ok_width hlt hb]
      refine ⟨by omega, ?_⟩
      rw [hi, at_drop hlt]
      simp [idxGo, hb]
  · rintro k ⟨hk, hi⟩ hge ⟨w1, σ1, φ1, M1, n1, rd1, mk1⟩ hn hrd hmk raw
    dsimp only at hn hrd hmk
    subst hn hrd hmk
    repeat' (first | (show OkOps _ _ _ _ _ _; first | refine okops_nil ?_ | refine s_plain tabOk rfl rfl rfl rfl rfl ?_ | fail) | (show OkC _ _ _ _ _; first | refine ok_seq ?_ | refine ok_region ?_ | refine ok_ret ?_ | refine ok_exit ?_ | refine ok_condF rfl ?_ | fail) | (show thenQ _ _ _ _; first | refine then_n ?_ | refine then_x ?_ | fail) | (show blockQ _ _ _ _; first | refine block_x rfl ?_ | fail) | (show RetQ _ _ _ _ _ _; first | refine ret_leaf (.inl rfl) rfl rfl ?_ | fail) | (show overQ _ _ _ _; first | refine overQ_x (by simp) ?_ | fail) | fail)
    rw [hi, List.drop_eq_nil_of_le hge]
    rfl
theorem c282 (s : List UInt8) : CallA Tryz.prog 282 [.one (.d (.str s)), .one (.d (.fn 281 []))] [] (.one (.d (.int .i64 (idxGo (fun c => !okByte c) s 0)))) [] := by
  refine enter tabOk Tryz.func282 rfl (by decide +kernel) rfl fun hok w0 σ0 φ0 M => ?_
  clear hok
  repeat' (first | (show OkOps _ _ _ _ _ _; first | refine okops_nil ?_ | refine s_plain tabOk rfl rfl rfl rfl rfl ?_ | (show OkOps _ _ _ (Oper.mk _ (Op.call _) _ _ _ (_) :: _) _ _; first | refine s_callF rfl rfl rfl rfl rfl rfl rfl rfl (c341 _) rfl ?_ | fail) | fail) | (show OkC _ _ _ _ _; first | refine ok_seq ?_ | refine ok_region ?_ | refine ok_ret ?_ | fail) | (show thenQ _ _ _ _; first | refine then_n ?_ | fail) | (show RetQ _ _ _ _ _ _; first | refine ret_leaf (.inl rfl) rfl rfl ?_ | fail) | fail)
  all_goals rfl
end Go.Proofs.YtpejdgkaapnekaaGreat
namespace Go.Proofs.YtpejdgkaapnekaaGreat
open Go Go.Abs
attribute [local irreducible] OkOps OkC DRun thenQ blockQ RetQ
set_option maxRecDepth 10000
theorem c280' (a b : Int) (ha : 0 ≤ a) (hb : 0 ≤ b) : CallA Tryz.prog 280 [.one (.d (.int .i64 a)), .one (.d (.int .i64 b))] [] (.one (.d (.int .i64 ((Nat.gcd a.toNat b.toNat : Nat) : Int)))) [] := by
  have := c280 a.toNat b.toNat
  rwa [Int.toNat_of_nonneg ha, Int.toNat_of_nonneg hb] at this
theorem idx_all {s : List UInt8} : ∀ (k : Nat), (decide (idxGo (fun c => !okByte c) s k < 0)) = s.all okByte := by
  induction s with
  | nil => intro k; simp [idxGo]
  | cons c r ih =>
    intro k
    simp only [idxGo, List.all_cons, ← ih (k + 1)]
    rw [Bool.eq_iff_iff]
    by_cases hc : okByte c = true <;> simp [hc]
theorem c233 (k n d : Int) (s : List UInt8) : CallA Tryz.prog 233 [.agg [.d (.int .i64 k), .d (.int .i64 n), .d (.int .i64 d), .d (.str s)]] [] (.one (.d (.bool (rightF k n d s)))) [] := by
  refine enter tabOk Tryz.func233 rfl (by decide +kernel) rfl fun hok w0 σ0 φ0 M => ?_
  have h1 := (hok.1 (.d (.int .i64 n)) (by simp)); replace h1 := OkD.i64 h1; clear hok
  repeat' (first | (show OkOps _ _ _ _ _ _; first | refine okops_nil ?_ | refine s_plain tabOk rfl rfl rfl rfl rfl ?_ | (show OkOps _ _ _ (Oper.mk _ (_) _ _ _ (some _) :: _) _ _; first | refine s_guard rfl rfl (by first | assumption | rfl) ?_ | refine s_out rfl rfl (by first | assumption | rfl) rfl rfl ?_ | refine s_outN rfl rfl rfl rfl ?_ | refine s_split rfl rfl rfl rfl (fun h => ?_) (fun h => ?_) | fail) | (show OkOps _ _ _ (Oper.mk _ (Op.unOp .neg _ _) _ _ _ (_) :: _) _ _; first | refine s_e envOk rfl rfl rfl (step3_neg rfl rfl (wrap64 (by first | omega | ((try simp only [decide_eq_true_eq, decide_eq_false_iff_not, Bool.not_eq_true', Bool.not_true, Bool.not_false, List.length_map, List.length_set, bne_iff_ne, ne_eq, beq_iff_eq, bne_eq_false_iff_eq, beq_eq_false_iff_ne] at *); omega)) (by first | omega | ((try simp only [decide_eq_true_eq, decide_eq_false_iff_not, Bool.not_eq_true', Bool.not_true, Bool.not_false, List.length_map, List.length_set, bne_iff_ne, ne_eq, beq_iff_eq, bne_eq_false_iff_eq, beq_eq_false_iff_ne] at *); omega)))) ?_ | fail) | (show OkOps _ _ _ (Oper.mk _ (Op.pick _ _ _) _ _ _ (_) :: _) _ _; first | refine s_e envOk rfl rfl rfl (step3_pickT rfl rfl (by first | rfl | assumption) rfl) ?_ | refine s_e envOk rfl rfl rfl (step3_pickF rfl rfl (by first | rfl | assumption) rfl) ?_ | fail) | (show OkOps _ _ _ (Oper.mk _ (Op.call _) _ _ _ (_) :: _) _ _; first | refine s_callF rfl rfl rfl rfl rfl rfl rfl rfl (c279 _ _ _ _) rfl ?_ | refine s_callF rfl rfl rfl rfl rfl rfl rfl rfl (c280' _ _ (by first | omega | ((try simp only [decide_eq_true_eq, decide_eq_false_iff_not, Bool.not_eq_true', Bool.not_true, Bool.not_false, List.length_map, List.length_set, bne_iff_ne, ne_eq, beq_iff_eq, bne_eq_false_iff_eq, beq_eq_false_iff_ne] at *); omega)) (by first | omega | ((try simp only [decide_eq_true_eq, decide_eq_false_iff_not, Bool.not_eq_true', Bool.not_true, Bool.not_false, List.length_map, List.length_set, bne_iff_ne, ne_eq, beq_iff_eq, bne_eq_false_iff_eq, beq_eq_false_iff_ne] at *); omega))) rfl ?_ | refine s_callF rfl rfl rfl rfl rfl rfl rfl rfl (c282 _) rfl ?_ | fail) | (show OkOps _ _ _ (Oper.mk _ (Op.box _ _) _ _ _ (_) :: _) _ _; first | refine s_box 0 rfl rfl rfl rfl rfl rfl ?_ | fail) | fail) | (show OkC _ _ _ _ _; first | refine ok_seq ?_ | refine ok_region ?_ | refine ok_block ?_ | refine ok_skip ?_ | refine ok_ret ?_ | refine ok_cond rfl (fun h => ?_) (fun h => ?_) | fail) | (show thenQ _ _ _ _; first | refine then_n ?_ | refine then_r ?_ | fail) | (show blockQ _ _ _ _; first | refine block_n ?_ | refine block_r ?_ | fail) | (show RetQ _ _ _ _ _ _; first | refine ret_leaf (.inl rfl) rfl rfl ?_ | fail) | fail)
  all_goals (try (((simp_all [rightF, ← idx_all 0, at_drop, List.drop_eq_nil_of_le]) <;> first | omega | (rw [Bool.eq_iff_iff]; simp; omega) | grind); done))
end Go.Proofs.YtpejdgkaapnekaaGreat
namespace Go.Proofs.YtpejdgkaapnekaaGreat
open Go Go.Abs
attribute [local irreducible] OkOps OkC DRun thenQ blockQ RetQ
set_option maxRecDepth 10000
theorem c225 (k n d : Int) (s : List UInt8) : CallA Tryz.prog 225 [.agg [.d (.int .i64 k), .d (.int .i64 n), .d (.int .i64 d), .d (.str s)]] [] (.one (.d (.int .i64 (if rightF k n d s then 0 else 2)))) [] := by
  refine enter tabOk Tryz.func225 rfl (by decide +kernel) rfl fun hok w0 σ0 φ0 M => ?_
  repeat' (first | (show OkOps _ _ _ _ _ _; first | refine okops_nil ?_ | refine s_plain tabOk rfl rfl rfl rfl rfl ?_ | (show OkOps _ _ _ (Oper.mk _ (Op.call _) _ _ _ (_) :: _) _ _; first | refine s_callF rfl rfl rfl rfl rfl rfl rfl rfl (c233 _ _ _ _) rfl ?_ | fail) | (show OkOps _ _ _ (Oper.mk _ (Op.box _ _) _ _ _ (_) :: _) _ _; first | refine s_box 0 rfl rfl rfl rfl rfl rfl ?_ | fail) | fail) | (show OkC _ _ _ _ _; first | refine ok_seq ?_ | refine ok_region ?_ | refine ok_skip ?_ | refine ok_ret ?_ | refine ok_cond rfl (fun h => ?_) (fun h => ?_) | fail) | (show thenQ _ _ _ _; first | refine then_n ?_ | refine then_r ?_ | fail) | (show RetQ _ _ _ _ _ _; first | refine ret_leaf (.inl rfl) rfl rfl ?_ | fail) | fail)
  all_goals (try (((simp_all [at_drop, List.drop_eq_nil_of_le]) <;> first | omega | (rw [Bool.eq_iff_iff]; simp; omega) | grind); done))
end Go.Proofs.YtpejdgkaapnekaaGreat
namespace Go.Proofs.YtpejdgkaapnekaaGreat
open Go Go.Abs
attribute [local irreducible] OkOps OkC DRun thenQ blockQ RetQ
set_option maxRecDepth 10000
structure Cell where
  at' : List Int
  vals : List Val
  deriving Inhabited
def valsGo : List Attr → List Val → Int
  | a :: ats, v :: vs => if !fitsF v.kind v.num v.den v.str a.type then 12 else valsGo ats vs
  | _, _ => 0
def cellF (ds : List Dim) (ats : List Attr) (at' : List Int) (vs : List Val) : Int :=
  if (at'.length : Int) ≠ ds.length ∨ (vs.length : Int) ≠ ats.length then 13 else if !ofF ds at' then 3 else valsGo ats vs
end Go.Proofs.YtpejdgkaapnekaaGreat
namespace Go.Proofs.YtpejdgkaapnekaaGreat
open Go Go.Abs
attribute [local irreducible] OkOps OkC DRun thenQ blockQ RetQ
set_option maxRecDepth 10000
end Go.Proofs.YtpejdgkaapnekaaGreat
namespace Go.Proofs.YtpejdgkaapnekaaGreat
open Go Go.Abs
def ltC (x y : Cell) : Prop := cmpF x.at' y.at' < 0
structure OkA (ds : List Dim) (ats : List Attr) (cs : List Cell) : Prop where
  sch : schemaF ds ats = 0
  few : cs.length ≤ 4096
  srt : cs.Pairwise ltC
  cel : ∀ c ∈ cs, cellF ds ats c.at' c.vals = 0
theorem schemaF_ok {ds : List Dim} {ats : List Attr} (h : schemaF ds ats = 0) : dimsF ds = 0 ∧ 1 ≤ ats.length ∧ ats.length ≤ 6 ∧ attrsGo (ds.map Dim.name) ats = 0 := by
  unfold schemaF at h
  split at h
  · rename_i h1; exact absurd h h1
  split at h
  · omega
  rename_i h1 h2
  exact ⟨by simpa using h1, by omega, by omega, h⟩
theorem dimsGo_ok : ∀ {ds : List Dim} {met : List (List UInt8)}, dimsGo met ds = 0 → (∀ d ∈ ds, boundsF d.lo d.hi = true ∧ nameF d.name = true ∧ d.name ∉ met) ∧ (ds.map Dim.name).Nodup
  | [], met, _ => ⟨by simp, by simp⟩
  | d :: r, met, h => by
    simp only [dimsGo] at h
    split at h
    · omega
    split at h
    · omega
    rename_i h1 h2
    obtain ⟨i1, i2⟩ := dimsGo_ok h
    simp only [Bool.or_eq_true, Bool.not_eq_true', not_or, Bool.not_eq_false, Bool.not_eq_true, List.contains_eq_mem, decide_eq_true_eq, decide_eq_false_iff_not] at h1
    refine ⟨fun x hx => ?_, ?_⟩
    · rcases List.mem_cons.1 hx with rfl | hx
      · exact ⟨by simpa using h2, h1.1, h1.2⟩
      · obtain ⟨j1, j2, j3⟩ := i1 x hx
        exact ⟨j1, j2, fun hm => j3 (List.mem_append.2 (.inl hm))⟩
    · rw [List.map_cons, List.nodup_cons]
      refine ⟨fun hm => ?_, i2⟩
      obtain ⟨x, hx, he⟩ := List.mem_map.1 hm
      exact (i1 x hx).2.2 (by rw [he]; simp)
theorem dimsF_ok {ds : List Dim} (h : dimsF ds = 0) : 1 ≤ ds.length ∧ ds.length ≤ 4 ∧ (∀ d ∈ ds, boundsF d.lo d.hi = true ∧ nameF d.name = true) ∧ (ds.map Dim.name).Nodup := by
  unfold dimsF at h
  split at h
  · omega
  rename_i h1
  obtain ⟨h2, h3⟩ := dimsGo_ok h
  exact ⟨by omega, by omega, fun d hd => ⟨(h2 d hd).1, (h2 d hd).2.1⟩, h3⟩
theorem boundsF_ok {lo hi : Int} : boundsF lo hi = true ↔ -1073741824 ≤ lo ∧ lo ≤ 1073741824 ∧ lo ≤ hi ∧ hi ≤ 1073741825 := by
  simp only [boundsF, Bool.and_eq_true, decide_eq_true_eq]; omega
end Go.Proofs.YtpejdgkaapnekaaGreat
namespace Go.Proofs.YtpejdgkaapnekaaGreat
open Go Go.Abs
attribute [local irreducible] OkOps OkC DRun thenQ blockQ RetQ
set_option maxRecDepth 10000
end Go.Proofs.YtpejdgkaapnekaaGreat
namespace Go.Proofs.YtpejdgkaapnekaaGreat
open Go Go.Abs
attribute [local irreducible] OkOps OkC DRun thenQ blockQ RetQ
set_option maxRecDepth 10000
end Go.Proofs.YtpejdgkaapnekaaGreat
namespace Go.Proofs.YtpejdgkaapnekaaGreat
open Go Go.Abs
attribute [local irreducible] OkOps OkC DRun thenQ blockQ RetQ
set_option maxRecDepth 10000
end Go.Proofs.YtpejdgkaapnekaaGreat
namespace Go.Proofs.YtpejdgkaapnekaaGreat
open Go Go.Abs
attribute [local irreducible] OkOps OkC DRun thenQ blockQ RetQ
set_option maxRecDepth 10000
end Go.Proofs.YtpejdgkaapnekaaGreat
namespace Go.Proofs.YtpejdgkaapnekaaGreat
open Go Go.Abs
attribute [local irreducible] OkOps OkC DRun thenQ blockQ RetQ
set_option maxRecDepth 10000
end Go.Proofs.YtpejdgkaapnekaaGreat
namespace Go.Proofs.YtpejdgkaapnekaaGreat
open Go Go.Abs
theorem Dim.ext {a b : Dim} (h1 : a.name = b.name) (h2 : a.lo = b.lo) (h3 : a.hi = b.hi) : a = b := by cases a; cases b; simp_all
structure Arr where
  dims : List Dim
  attrs : List Attr
  cells : List Cell
  deriving Inhabited
section
variable {a : Arr}
theorem OkA.dims (h : OkA a.dims a.attrs a.cells) : 1 ≤ a.dims.length ∧ a.dims.length ≤ 4 ∧ (∀ i, i < a.dims.length → (-1073741824 ≤ (at_ a.dims i).lo ∧ (at_ a.dims i).lo ≤ 1073741824 ∧ (at_ a.dims i).lo ≤ (at_ a.dims i).hi ∧ (at_ a.dims i).hi ≤ 1073741825) ∧ nameF (at_ a.dims i).name = true) ∧ (a.dims.map Dim.name).Nodup := by
  obtain ⟨h1, h2, h3, h4⟩ := dimsF_ok (schemaF_ok h.sch).1
  exact ⟨h1, h2, fun i hi => ⟨boundsF_ok.1 (h3 _ (at_mem hi)).1, (h3 _ (at_mem hi)).2⟩, h4⟩
end
end Go.Proofs.YtpejdgkaapnekaaGreat
namespace Go.Proofs.YtpejdgkaapnekaaGreat
open Go Go.Abs
attribute [local irreducible] OkOps OkC DRun thenQ blockQ RetQ
set_option maxRecDepth 10000
inductive Scalar where
  | mk (op : Int) (name : List UInt8) (val : Val) (args : List Scalar)
  deriving Inhabited
def Scalar.op : Scalar → Int | .mk o _ _ _ => o
def Scalar.name : Scalar → List UInt8 | .mk _ n _ _ => n
def Scalar.val : Scalar → Val | .mk _ _ v _ => v
def Scalar.args : Scalar → List Scalar | .mk _ _ _ a => a
theorem Scalar.args_lt : ∀ {s x : Scalar}, x ∈ s.args → SizeOf.sizeOf x < SizeOf.sizeOf s
  | .mk o n v a, x, h => by
    have := List.sizeOf_lt_of_mem (show x ∈ a from h)
    simp; omega
theorem Scalar.ind {Q : Scalar → Prop} (h : ∀ s : Scalar, (∀ x ∈ s.args, Q x) → Q s) (s : Scalar) : Q s :=
  h s fun x hx => have := Scalar.args_lt hx; Scalar.ind h x
termination_by SizeOf.sizeOf s
mutual
def encS : Scalar → List D
  | .mk o n v a => [.int .i64 o, .str n, .int .i64 v.kind, .int .i64 v.num, .int .i64 v.den, .str v.str, .sl 7 88 (encSs a)]
def encSs : List Scalar → List (List D)
  | [] => []
  | s :: r => encS s :: encSs r
end
theorem encSs_map : ∀ (l : List Scalar), encSs l = l.map encS
  | [] => rfl
  | s :: r => by simp [encSs, encSs_map r]
def encScalars (l : List Scalar) : D := .sl 7 88 (l.map encS)
def rowS (s : Scalar) : List D := [.int .i64 s.op, .str s.name, .int .i64 s.val.kind, .int .i64 s.val.num, .int .i64 s.val.den, .str s.val.str, encScalars s.args]
def aggS (s : Scalar) : AV := .agg [.d (.int .i64 s.op), .d (.str s.name), .d (.int .i64 s.val.kind), .d (.int .i64 s.val.num), .d (.int .i64 s.val.den), .d (.str s.val.str), .d (encScalars s.args)]
theorem encS_eq : ∀ (s : Scalar), encS s = rowS s
  | .mk o n v a => by simp [encS, rowS, Scalar.op, Scalar.name, Scalar.val, Scalar.args, encScalars, encSs_map]
theorem at_mapS {l : List Scalar} {i : Nat} (h : i < l.length) : (l.map encS)[i]? = some (rowS (at_ l i)) := by rw [at_map h, encS_eq]
def depthF : Nat → Scalar → Int
  | 0, _ => 1
  | m + 1, s => s.args.foldl (fun d x => max d (depthF m x)) 0 + 1
theorem fold_range {f : Scalar → Int} {B : Int} (h : ∀ x, 1 ≤ f x ∧ f x ≤ B) : ∀ (l : List Scalar) (d : Int), 0 ≤ d → d ≤ B → 0 ≤ l.foldl (fun d x => max d (f x)) d ∧ l.foldl (fun d x => max d (f x)) d ≤ B
  | [], d, h0, h1 => ⟨h0, h1⟩
  | x :: r, d, h0, h1 => by
    have := h x
    exact fold_range h r _ (by show 0 ≤ max d (f x); omega) (by show max d (f x) ≤ B; omega)
theorem depthF_range : ∀ (m : Nat) (s : Scalar), 1 ≤ depthF m s ∧ depthF m s ≤ m + 1
  | 0, s => by simp [depthF]
  | m + 1, s => by
    have := fold_range (f := depthF m) (B := m + 1) (fun x => by have := depthF_range m x; omega) s.args 0 (by omega) (by omega)
    simp only [depthF]; omega
theorem fold_snoc {f : Scalar → Int} {l : List Scalar} {k : Nat} {d : Int} (h : k < l.length) : (l.take (k + 1)).foldl (fun d x => max d (f x)) d = max ((l.take k).foldl (fun d x => max d (f x)) d) (f (at_ l k)) := by
  rw [at_take h, List.foldl_append]; rfl
end Go.Proofs.YtpejdgkaapnekaaGreat
namespace Go.Proofs.YtpejdgkaapnekaaGreat
open Go Go.Abs
open Go.ChangeShapes Go.WideShapes Go.ChangeAt Go.RowKit
section
variable {H : Type} {en : TypeId × Value → H} {W : World}
theorem bulk_one (d : DataW H) : 1 ≤ Rows.uptoBulk d := by
  cases d with
  | lit l => cases l <;> simp [Rows.uptoBulk]
  | _ => simp [Rows.uptoBulk]
theorem bulk_mem {d : DataW H} : ∀ {l : List (DataW H)}, d ∈ l → Rows.uptoBulk d ≤ Rows.uptoBulkAll l
  | [], h => by simp at h
  | x :: r, h => by
    simp only [Rows.uptoBulkAll]
    rcases List.mem_cons.1 h with rfl | h
    · omega
    · have := bulk_mem h; omega
theorem bulk_len : ∀ (l : List (DataW H)), l.length ≤ Rows.uptoBulkAll l
  | [] => by simp [Rows.uptoBulkAll]
  | x :: r => by have := bulk_one x; have := bulk_len r; simp only [Rows.uptoBulkAll, List.length_cons]; omega
def sg (W : World) : Sig := fun b => match W.heap[b]? with | some (.cells cs _ _) => some cs | _ => none
theorem sg_some {b : Nat} {cs : Array Value} (h : sg W b = some cs) : ∃ t f, W.heap[b]? = some (.cells cs t f) := by
  unfold sg at h
  split at h
  · rename_i c t f hh; cases h; exact ⟨t, f, hh⟩
  · cases h
theorem sg_inv (φ : Pl) : HInv (sg W) φ [] W := ⟨fun b cs h => sg_some h, fun i e h => by simp [Abs.look] at h, fun i i' e e' p p' h => by simp [Abs.look] at h⟩
def Rd (en : TypeId × Value → H) (W : World) (N : Nat) (t : TypeId) {α : Type} (f : α → List D) (Q : α → Prop) : Prop :=
  ∀ (fuel : Nat) (cs : List Value) (x : DataW H × List MemPlace), DataW.trod en Tryz.prog W 0 (fun _ => true) true fuel t cs = some x → Rows.uptoBulk x.1 ≤ N → ∃ a : α, Q a ∧ All2 (Rep (sg W)) (f a) cs
def yes {α : Type} (_ : α) : Prop := True
theorem Rd.mono {N M : Nat} {t : TypeId} {α : Type} {f : α → List D} {Q : α → Prop} (h : Rd en W N t f Q) (hm : M ≤ N) : Rd en W M t f Q := fun fuel cs x hx hb => h fuel cs x hx (by omega)
theorem rd_int {N : Nat} {t : TypeId} (ht : Tryz.prog.underlying t = some (.int .i64)) : Rd en W N t (fun n : Int => [.int .i64 n]) yes := by
  intro fuel cs x h _
  obtain ⟨n, rfl, _, hw⟩ := DataW.trod_int ht h
  have hw' := bounds_i64 hw
  refine ⟨n, trivial, .int ?_, trivial⟩
  simp only [inR, IntKind.min, IntKind.max, IntKind.signed, IntKind.bits, if_true]
  omega
theorem rd_str {N : Nat} {t : TypeId} (hN : N ≤ 1048576) (ht : Tryz.prog.underlying t = some .string) : Rd en W N t (fun s : List UInt8 => [.str s]) yes := by
  intro fuel cs x h hb
  obtain ⟨s, rfl, rfl, _⟩ := DataW.trod_string ht h
  simp only [Rows.uptoBulk] at hb
  have := Rep.str (σ := sg W) (s := s.data.toList) (by omega)
  refine ⟨s.data.toList, trivial, ?_, trivial⟩
  simpa using this
def few_ {α : Type} (N : Nat) (Q : α → Prop) (l : List α) : Prop := l.length ≤ N ∧ ∀ x ∈ l, Q x
theorem rd_slice {N k b : Nat} {t e : TypeId} {α : Type} [Inhabited α] {f : α → List D} {Q : α → Prop} (hN : N ≤ 1048575) (hb : b ≤ 1000) (hk : 0 < k) (ht : Tryz.prog.underlying t = some (.slice e)) (hc : Tryz.prog.cellsOf e = k) (he : Rd en W N e f Q) : Rd en W (N + 1) t (fun l : List α => [.sl k b (l.map f)]) (few_ N Q) := by
  intro fuel cs x h hbk
  rcases Deep.open_slice ht h with ⟨rfl, rfl⟩ | ⟨a, len, cap, m, n, Dd, Pl, rfl, _, hl, _, hm, rfl, hel⟩
  · refine ⟨[], ⟨by simp, by simp⟩, ?_, trivial⟩
    exact .sl (fun _ _ => undef) (by simp) (by simp) (by simp) (by simp) (by simp) (by simp)
  · simp only [if_true] at hm
    subst hm
    rw [hc] at hel
    simp only [Rows.uptoBulk] at hbk
    have hlen : len ≤ N := by
      have := bulk_len ((List.range len).map Dd)
      simp only [List.length_map, List.length_range] at this
      omega
    have hpart : ∀ i, i < len → Rows.uptoBulk (Dd i) ≤ N := by
      intro i hi
      have := bulk_mem (d := Dd i) (l := (List.range len).map Dd) (List.mem_map.2 ⟨i, List.mem_range.2 hi, rfl⟩)
      omega
    obtain ⟨g, hg⟩ := Deep.choose_lt (n := len) (p := fun i (y : α) => Q y ∧ ∃ cs', W.cells? 0 (a.add (i * k)) k = some cs' ∧ All2 (Rep (sg W)) (f y) cs') (fun i hi => by
      obtain ⟨cs', h1, h2⟩ := hel i (by omega)
      obtain ⟨y, hq, hy⟩ := he _ _ _ h2 (hpart i hi)
      exact ⟨y, hq, cs', h1, hy⟩)
    have hcell : ∀ i, i < len → ∀ j, j < k → ∃ v, W.cell? ((a.add (i * k)).add j) = some v ∧ ∀ d, (f (g i))[j]? = some d → Rep (sg W) d v := by
      intro i hi j hj
      obtain ⟨_, cs', h1, h2⟩ := hg i hi
      obtain ⟨_, h3, h4⟩ := World.cells?_some h1
      have h5 : cs'[j]? = some (cs'[j]'(by omega)) := List.getElem?_eq_getElem (by omega)
      refine ⟨_, (h4 j hj).trans h5, fun d hd => ?_⟩
      obtain ⟨v, hv, hr⟩ := h2.get hd
      rw [h5] at hv; cases hv; exact hr
    have hfl : ∀ i, i < len → (f (g i)).length = k := by
      intro i hi
      obtain ⟨_, cs', h1, h2⟩ := hg i hi
      rw [h2.length]; exact (World.cells?_some h1).2.1
    have hadd : ∀ i j, i < len → j < k → a.spot = none → ((a.add (i * k)).add j) = ⟨a.block, a.off + i * k + j, none⟩ := by
      intro i j _ _ hs
      obtain ⟨B, o, sp⟩ := a
      simp only at hs
      subst hs
      by_cases h1 : i * k = 0 <;> by_cases h2 : j = 0 <;> simp [Addr.add, h1, h2]
    have hA : 0 < len → ∃ cells : Array Value, a.spot = none ∧ sg W a.block = some cells := by
      intro h0
      obtain ⟨v, hv, _⟩ := hcell 0 h0 0 hk
      have e0 : ((a.add (0 * k)).add 0) = a := by simp [Addr.add]
      rw [e0] at hv
      unfold World.cell? at hv
      unfold sg
      split at hv
      · rename_i c t2 f2 hh
        rw [hh]
        split at hv
        · cases hv
        · rename_i hs
          exact ⟨c, by simpa using hs, rfl⟩
      · cases hv
    refine ⟨(List.range len).map g, ⟨by simpa using hlen, fun y hy => ?_⟩, ?_, trivial⟩
    · obtain ⟨i, hi, rfl⟩ := List.mem_map.1 hy
      exact (hg i (List.mem_range.1 hi)).1
    have hll : (((List.range len).map g).map f).length = len := by simp
    have key : Rep (sg W) (.sl k b (((List.range len).map g).map f)) (.slice (some a) (((List.range len).map g).map f).length m) := by
      refine .sl (fun i j => (W.cell? ((a.add (i * k)).add j)).getD undef) (by rw [hll]; exact hl) (by rw [hll]; omega) (by
        rw [hll]
        have : len * b ≤ 1048576 * 1000 := Nat.mul_le_mul (by omega) hb
        omega) (fun x hx => ?_) (fun h0 => ?_) (fun i j x d hx hd => ?_)
      · simp only [List.mem_map, List.mem_range] at hx
        obtain ⟨y, ⟨i, hi, rfl⟩, rfl⟩ := hx
        exact hfl i hi
      · rw [hll] at h0
        obtain ⟨cells, hs, hsg⟩ := hA h0
        refine ⟨a.block, a.off, cells, ?_, hsg, fun i j hi hj => ?_⟩
        · obtain ⟨B, o, sp⟩ := a; simp only at hs; subst hs; rfl
        · rw [hll] at hi
          obtain ⟨v, hv, _⟩ := hcell i hi j hj
          rw [hv]
          rw [hadd i j hi hj hs] at hv
          obtain ⟨t2, f2, hh⟩ := sg_some hsg
          simp only [World.cell?, hh] at hv
          simpa using hv
      · simp only [List.getElem?_map, Option.map_eq_some_iff] at hx
        obtain ⟨y, ⟨i', hi', rfl⟩, rfl⟩ := hx
        have hi : i < len := by
          have := (List.getElem?_eq_some_iff.1 hi').1
          simpa using this
        have hii : i' = i := by simpa [List.getElem?_range hi] using hi'.symm
        subst hii
        have hj : j < k := by rw [← hfl i' hi]; exact (List.getElem?_eq_some_iff.1 hd).1
        obtain ⟨v, hv, hr⟩ := hcell i' hi j hj
        rw [hv]
        exact hr d hd
    rw [hll] at key
    exact key
theorem all2_app {R : D → Value → Prop} {a b : List D} {cs : List Value} {o n m : Nat} (h1 : All2 R a ((cs.drop o).take n)) (h2 : All2 R b ((cs.drop (o + n)).take m)) : All2 R (a ++ b) ((cs.drop o).take (n + m)) := by
  rw [List.take_add, List.drop_drop]
  exact h1.append h2
theorem rd_field {N : Nat} {t u : TypeId} {fs : Array Field} {fuel : Nat} {cs : List Value} {x : DataW H × List MemPlace} (ht : Tryz.prog.underlying t = some (.struct fs)) (h : DataW.trod en Tryz.prog W 0 (fun _ => true) true fuel t cs = some x) (hb : Rows.uptoBulk x.1 ≤ N + 1)
    (i : Nat) {fd : Field} (hf : fs[i]? = some fd) {α : Type} {f : α → List D} {Q : α → Prop} (hr : Rd en W N fd.type f Q) {c : Nat} (hc : Tryz.prog.cellsOf fd.type = c) : ∃ a, Q a ∧ All2 (Rep (sg W)) (f a) ((cs.drop fd.offset).take c) := by
  subst hc
  obtain ⟨xs, n, _, rfl, _, hl, hx⟩ := DataW.trod_struct ht h
  have h2 := hx i fd hf
  have hi : i < xs.length := by rw [hl]; exact (Array.getElem?_eq_some_iff.1 hf).1
  rw [List.getElem?_eq_getElem hi] at h2
  refine hr _ _ _ h2 ?_
  have := bulk_mem (d := (xs[i]).1) (l := xs.map (·.1)) (List.mem_map.2 ⟨_, List.getElem_mem hi, rfl⟩)
  simp only [Rows.uptoBulk] at hb
  omega
theorem cellsL {t : TypeId} {fs : Array Field} {fuel : Nat} {cs : List Value} {x : DataW H × List MemPlace} (ht : Tryz.prog.underlying t = some (.struct fs)) (h : DataW.trod en Tryz.prog W 0 (fun _ => true) true fuel t cs = some x) : cs.length = Tryz.prog.cellsOf t := by
  obtain ⟨_, _, _, _, hl, _⟩ := DataW.trod_struct ht h
  exact hl
theorem cells3 : Tryz.prog.cellsOf 3 = 1 := by kernel_rfl
theorem cells2 : Tryz.prog.cellsOf 2 = 1 := by kernel_rfl
theorem cells9 : Tryz.prog.cellsOf 9 = 1 := by kernel_rfl
theorem cells28 : Tryz.prog.cellsOf 28 = 4 := by kernel_rfl
theorem cells29 : Tryz.prog.cellsOf 29 = 1 := by kernel_rfl
theorem cells31 : Tryz.prog.cellsOf 31 = 7 := by kernel_rfl
theorem whole {R : D → Value → Prop} {a : List D} {cs : List Value} {n : Nat} (h : All2 R a ((cs.drop 0).take n)) (hl : cs.length = n) : All2 R a cs := by
  rw [List.drop_zero, List.take_of_length_le (by omega)] at h; exact h
theorem rd_val {N : Nat} (hN : N ≤ 1048575) : Rd en W (N + 1) 28 (fun v : Val => [.int .i64 v.kind, .int .i64 v.num, .int .i64 v.den, .str v.str]) yes := by
  intro fuel cs x h hb
  obtain ⟨k, _, hk⟩ := rd_field (u := 0) Tryz.underlying28 h hb 0 rfl (rd_int Tryz.underlying3) cells3
  obtain ⟨n, _, hn⟩ := rd_field (u := 0) Tryz.underlying28 h hb 1 rfl (rd_int Tryz.underlying2) cells2
  obtain ⟨d, _, hd⟩ := rd_field (u := 0) Tryz.underlying28 h hb 2 rfl (rd_int Tryz.underlying2) cells2
  obtain ⟨s, _, hs⟩ := rd_field (u := 0) Tryz.underlying28 h hb 3 rfl (rd_str (by omega) Tryz.underlying9) cells9
  exact ⟨⟨k, n, d, s⟩, trivial, whole (all2_app (all2_app (all2_app hk hn) hd) hs) ((cellsL Tryz.underlying28 h).trans cells28)⟩
theorem rd_scalar : ∀ (N : Nat), N ≤ 1048576 → Rd en W N 31 encS yes := by
  intro N
  induction N using Nat.strongRecOn with
  | _ N ih =>
    intro hN fuel cs x h hb
    have h1 := bulk_one x.1
    obtain ⟨xs, n0, _, hx, _, hl, hfx⟩ := DataW.trod_struct Tryz.underlying31 h
    obtain ⟨M, rfl⟩ : ∃ M, N = M + 1 := ⟨N - 1, by omega⟩
    obtain ⟨o, _, ho⟩ := rd_field (u := 0) Tryz.underlying31 h hb 0 rfl (rd_int Tryz.underlying3) cells3
    obtain ⟨s, _, hs⟩ := rd_field (u := 0) Tryz.underlying31 h hb 1 rfl (rd_str (by omega) Tryz.underlying9) cells9
    have hM : 1 ≤ M := by
      have hi : 0 < xs.length := by rw [hl]; decide
      have h3 := bulk_mem (d := (xs[0]).1) (l := xs.map (·.1)) (List.mem_map.2 ⟨_, List.getElem_mem hi, rfl⟩)
      have h4 := bulk_one (xs[0]).1
      rw [hx] at hb
      simp only [Rows.uptoBulk] at hb
      omega
    obtain ⟨L, rfl⟩ : ∃ L, M = L + 1 := ⟨M - 1, by omega⟩
    obtain ⟨v, _, hv⟩ := rd_field (u := 0) Tryz.underlying31 h hb 2 rfl (rd_val (N := L) (by omega)) cells28
    obtain ⟨l, _, hlst⟩ := rd_field (u := 0) Tryz.underlying31 h hb 3 rfl (rd_slice (k := 7) (b := 88) (by omega) (by omega) (by omega) Tryz.underlying29 cells31 (ih L (by omega) (by omega))) cells29
    refine ⟨.mk o s v l, trivial, ?_⟩
    rw [encS_eq]
    exact whole (all2_app (all2_app (all2_app ho hs) hv) hlst) ((cellsL Tryz.underlying31 h).trans cells31)
theorem okWide_agg {P : Program} {t : TypeId} {fs : Array Field} {r : Reach} {base : Nat} {v : Value} (ht : P.underlying t = some (.struct fs)) (h : Value.okWide P W r base t v) : ∃ cs : List Value, v = .agg cs.toArray := by
  unfold Value.okWide at h
  rw [ht] at h
  obtain ⟨cs, rfl, _⟩ := h
  exact ⟨cs.toList, by simp⟩
theorem carryAll {W' : World} : ∀ {ts : List TypeId} {vs : List Value} {ds : List (DataW H)} {ps : List MemPlace}, DataW.TrodAll en Tryz.prog W 0 (fun _ => true) true ts vs ds ps → (∀ p ∈ ps, W.sameAt W' p) → DataW.TrodAll en Tryz.prog W' 0 (fun _ => true) true ts vs ds ps
  | [], [], [], _, h, _ => h
  | _ :: _, _ :: _, _ :: _, _, ⟨p, q, ⟨n, h1⟩, h2, e⟩, hs => ⟨p, q, ⟨n, DataW.trod_carry n _ _ _ h1 fun x hx => hs x (by rw [e]; exact List.mem_append_left _ hx)⟩, carryAll h2 fun x hx => hs x (by rw [e]; exact List.mem_append_right _ hx), e⟩
theorem own : ownKnob Tryz.prog.godebug = none := by kernel_rfl
theorem kids : Kids Tryz.prog (· < Tryz.prog.types.size) := kids_rows (by kernel_rfl) (by kernel_rfl)
set_option maxRecDepth 100000 in
theorem full : ∀ t e, t < Tryz.prog.types.size → Tryz.prog.underlying t = some (.slice e) → 0 < Tryz.prog.cellsOf e := slices_full_of Tryz.prog (by kernel_rfl)
theorem keptBlock {W' : World} (h : Kept (MOf (fun _ => none) []) W W') : ∀ b, b < W.heap.size → W'.heap[b]? = W.heap[b]? := fun b hb => h.block b hb (by rintro ⟨id, e, p, h1, _⟩; simp [Abs.look] at h1)
theorem keptAll {W' : World} (h : Kept (MOf (fun _ => none) []) W W') (may : MemPlace → Prop) : W.keptBut W' may :=
  ⟨h.os, h.output, fun i hi => by rw [keptBlock h i hi]; exact (World.keptBut_refl W may).2.2 i hi⟩
theorem keptSame {W' : World} (h : Kept (MOf (fun _ => none) []) W W') {p : MemPlace} (hp : p.block < W.heap.size) : W.sameAt W' p := by
  have hb := keptBlock h p.block hp
  cases p with
  | cell b off => show W'.cell? ⟨b, off, none⟩ = W.cell? ⟨b, off, none⟩; unfold World.cell?; rw [show W'.heap[b]? = W.heap[b]? from hb]
  | map b => exact hb
theorem all2_d {σ : Sig} {φ : Pl} {sto : Sto} : ∀ {ds : List D} {vs : List Value}, All2 (Rep σ) ds vs → All2 (RepC σ φ sto) (ds.map .d) vs
  | [], [], _ => trivial
  | d :: r, v :: vs, h => ⟨.d h.1, all2_d h.2⟩
  | [], _ :: _, h => h.elim
  | _ :: _, [], h => h.elim
theorem tsz : Nat.blt 300 Tryz.prog.types.size = true := by kernel_rfl
theorem few {t : Nat} (h : t ≤ 300) : t < Tryz.prog.types.size := by have := Nat.blt_eq.mp tsz; omega
theorem shutBool {W' : World} {base : Nat} {sp : Nat → Bool} {held : Bool} (b : Bool) : DataW.Trod en Tryz.prog W' base sp held 4 (.bool b) (.lit (.bool b)) [] := ⟨1, by simp [DataW.trod, Value.cells, Tryz.underlying4]⟩
end
end Go.Proofs.YtpejdgkaapnekaaGreat
namespace Go.Proofs.YtpejdgkaapnekaaGreat
open Go Go.Abs
attribute [local irreducible] OkOps OkC DRun thenQ blockQ RetQ
set_option maxRecDepth 10000
theorem c90 : ∀ (m : Nat) (s : Scalar) (z : Int), z = m → m ≤ 12 → CallA Tryz.prog 90 [aggS s, .one (.d (.int .i64 z))] [] (.one (.d (.int .i64 (depthF m s)))) []
  | 0, s, z, hz, hm => by
    subst hz
    refine enter tabOk Tryz.func90 rfl (by decide +kernel) rfl fun hok w0 σ0 φ0 M => ?_
    clear hok
    repeat' (first | (show OkOps _ _ _ _ _ _; first | refine okops_nil ?_ | refine s_plain tabOk rfl rfl rfl rfl rfl ?_ | (show OkOps _ _ _ (Oper.mk _ (Op.box _ _) _ _ _ (_) :: _) _ _; first | refine s_box 0 rfl rfl rfl rfl rfl rfl ?_ | fail) | fail) | (show OkC _ _ _ _ _; first | refine ok_seq ?_ | refine ok_region ?_ | refine ok_ret ?_ | refine ok_condT rfl ?_ | fail) | (show thenQ _ _ _ _; first | refine then_n ?_ | refine then_r ?_ | fail) | (show RetQ _ _ _ _ _ _; first | refine ret_leaf (.inl rfl) rfl rfl ?_ | fail) | fail)
    all_goals (try (((simp_all [depthF, at_drop, List.drop_eq_nil_of_le]) <;> first | omega | (rw [Bool.eq_iff_iff]; simp; omega) | grind); done))
    all_goals trace_state
  | m + 1, s, z, hz, hm => by
    have ih := fun (s : Scalar) (z : Int) (hz : z = m) => c90 m s z hz (by omega)
    refine enter tabOk Tryz.func90 rfl (by decide +kernel) rfl fun hok w0 σ0 φ0 M => ?_
    have h1 := (OkD.sl (hok.1 (.d (encScalars s.args)) (by simp))).1; clear hok; simp only [List.length_map] at h1
    have hf := fun k => fold_range (f := depthF m) (B := m + 1) (fun x => by have := depthF_range m x; omega) (s.args.take k) 0 (by omega) (by omega)
    repeat' (first | (show OkOps _ _ _ _ _ _; first | refine okops_nil ?_ | refine s_plain tabOk rfl rfl rfl rfl rfl ?_ | (show OkOps _ _ _ (Oper.mk _ (Op.binOp .add _ _ _ _) _ _ _ (_) :: _) _ _; first | refine s_e envOk rfl rfl rfl (step3_add rfl rfl rfl rfl (wrap64 (by omega) (by omega))) ?_ | refine s_val tabOk rfl rfl rfl rfl ?_ | fail) | (show OkOps _ _ _ (Oper.mk _ (Op.binOp .sub _ _ _ _) _ _ _ (_) :: _) _ _; first | refine s_e envOk rfl rfl rfl (step3_sub rfl rfl rfl rfl (wrap64 (by omega) (by omega))) ?_ | fail) | (show OkOps _ _ _ (Oper.mk _ (Op.indexAddr _ _ _) _ _ _ (_) :: _) _ _; first | refine s_e envOk rfl rfl rfl (step3_idx rfl rfl rfl rfl rfl (by first | omega | ((try simp only [decide_eq_true_eq, decide_eq_false_iff_not, Bool.not_eq_true', Bool.not_true, Bool.not_false, List.length_map, List.length_set, bne_iff_ne, ne_eq, beq_iff_eq, bne_eq_false_iff_eq, beq_eq_false_iff_ne] at *); omega)) (at_mapS (by first | omega | ((try simp only [decide_eq_true_eq, decide_eq_false_iff_not, Bool.not_eq_true', Bool.not_true, Bool.not_false, List.length_map, List.length_set, bne_iff_ne, ne_eq, beq_iff_eq, bne_eq_false_iff_eq, beq_eq_false_iff_ne] at *); omega)))) ?_ | fail) | (show OkOps _ _ _ (Oper.mk _ (Op.call _) _ _ _ (_) :: _) _ _; first | refine s_callF rfl rfl rfl rfl rfl rfl rfl rfl (ih _ _ (by omega)) rfl ?_ | fail) | (show OkOps _ _ _ (Oper.mk _ (Op.box _ _) _ _ _ (_) :: _) _ _; first | refine s_box 0 rfl rfl rfl rfl rfl rfl ?_ | fail) | fail) | (show OkC _ _ _ _ _; first | refine ok_seq ?_ | refine ok_region ?_ | refine ok_block ?_ | refine ok_skip ?_ | refine ok_ret ?_ | refine ok_exit ?_ | refine ok_cond rfl (fun h => ?_) (fun h => ?_) | refine s_loop 5 rfl [(1, _), (2, _)] (subL_cons rfl (subL_cons rfl subL_nil)) (fun (p : Nat × Int) => [(5, .one (.d (.int .i64 p.2))), (6, .one (.d (.int .i64 (p.1 : Int))))]) (fun (p : Nat × Int) => p.1 ≤ s.args.length ∧ p.2 = (s.args.take p.1).foldl (fun d x => max d (depthF m x)) 0) (fun (p : Nat × Int) => s.args.length - p.1) (0, 0) (subL_cons rfl (subL_cons rfl subL_nil)) ?_ (fun p ⟨hk, hd⟩ => ?_) | fail) | (show thenQ _ _ _ _; first | refine then_n ?_ | refine then_r ?_ | refine then_x ?_ | fail) | (show blockQ _ _ _ _; first | refine block_n ?_ | refine block_x rfl ?_ | fail) | (show RetQ _ _ _ _ _ _; first | refine ret_leaf (.inl rfl) rfl rfl ?_ | fail) | (show Exists _; first | refine Exists.intro ((p.1 + 1, max p.2 (depthF m (at_ s.args p.1)))) ⟨?_, ?_, (by first | exact subL_nil | exact (subL_cons rfl subL_nil) | exact (subL_cons rfl (subL_cons rfl subL_nil)) | exact (subL_cons rfl (subL_cons rfl (subL_cons rfl subL_nil))) | exact (subL_cons rfl (subL_cons rfl (subL_cons rfl (subL_cons rfl subL_nil)))) | exact (subL_cons rfl (subL_cons rfl (subL_cons rfl (subL_cons rfl (subL_cons rfl subL_nil))))) | exact (subL_cons rfl (subL_cons rfl (subL_cons rfl (subL_cons rfl (subL_cons rfl (subL_cons rfl subL_nil)))))) | exact (subL_cons rfl (subL_cons rfl (subL_cons rfl (subL_cons rfl (subL_cons rfl (subL_cons rfl (subL_cons rfl subL_nil))))))) | exact (subL_cons rfl (subL_cons rfl (subL_cons rfl (subL_cons rfl (subL_cons rfl (subL_cons rfl (subL_cons rfl (subL_cons rfl subL_nil))))))))), (subL_cons rfl (subL_cons rfl subL_nil)), (subL_cons rfl (subL_cons rfl subL_nil))⟩ | fail) | fail)
    all_goals (try (((simp_all [depthF, fold_snoc, at_drop, List.drop_eq_nil_of_le]) <;> first | omega | (rw [Bool.eq_iff_iff]; simp; omega) | grind); done))
    · have hw := hf p.1
      rw [← hd] at hw
      have hl : s.args.length ≤ p.1 := by simpa using h
      rw [wrap64 (by omega) (by omega), hd, List.take_of_length_le hl]
      rfl
mutual
def countF : Scalar → Int → Int
  | .mk _ _ _ a, most => countLs a 1 most
def countLs : List Scalar → Int → Int → Int
  | [], n, _ => n
  | x :: r, n, most => if n ≤ most then countLs r (n + countF x (most - n)) most else n
end
theorem countF_eq : ∀ {s : Scalar} {most : Int}, countF s most = countLs s.args 1 most
  | .mk _ _ _ a, most => by simp [countF, Scalar.args]
theorem countLs_range {most : Int} : ∀ (l : List Scalar), (∀ x ∈ l, ∀ m, 0 ≤ m → 1 ≤ countF x m ∧ countF x m ≤ m + 1) → ∀ n, 1 ≤ n → n ≤ most + 1 → 1 ≤ countLs l n most ∧ countLs l n most ≤ most + 1
  | [], _, n, h1, h2 => by simp [countLs, h1, h2]
  | x :: r, h, n, h1, h2 => by
    simp only [countLs]
    split
    · have := h x (by simp) (most - n) (by omega)
      exact countLs_range r (fun y hy => h y (by simp [hy])) _ (by omega) (by omega)
    · exact ⟨h1, h2⟩
theorem countF_range (s : Scalar) : ∀ m, 0 ≤ m → 1 ≤ countF s m ∧ countF s m ≤ m + 1 := by
  induction s using Scalar.ind with
  | h s ih =>
    intro m hm
    rw [countF_eq]
    exact countLs_range s.args ih 1 (by omega) (by omega)
theorem c91 (s : Scalar) : ∀ (z : Int), 0 ≤ z → z ≤ 64 → CallA Tryz.prog 91 [aggS s, .one (.d (.int .i64 z))] [] (.one (.d (.int .i64 (countF s z)))) [] := by
  induction s using Scalar.ind with
  | h s ih =>
    intro z hz hz2
    refine enter tabOk Tryz.func91 rfl (by decide +kernel) rfl fun hok w0 σ0 φ0 M => ?_
    have h1 := (OkD.sl (hok.1 (.d (encScalars s.args)) (by simp))).1; clear hok; simp only [List.length_map] at h1
    repeat' (first | (show OkOps _ _ _ _ _ _; first | refine okops_nil ?_ | refine s_plain tabOk rfl rfl rfl rfl rfl ?_ | (show OkOps _ _ _ (Oper.mk _ (_) _ _ _ (some _) :: _) _ _; first | refine s_guard rfl rfl (by first | assumption | rfl) ?_ | refine s_out rfl rfl (by first | assumption | rfl) rfl rfl ?_ | refine s_split rfl rfl rfl rfl (fun h => ?_) (fun h => ?_) | fail) | (show OkOps _ _ _ (Oper.mk _ (Op.binOp .add _ _ _ _) _ _ _ (_) :: _) _ _; first | refine s_e envOk rfl rfl rfl (step3_add rfl rfl rfl rfl (wrap64 (by omega) (by omega))) ?_ | refine s_val tabOk rfl rfl rfl rfl ?_ | fail) | (show OkOps _ _ _ (Oper.mk _ (Op.binOp .sub _ _ _ _) _ _ _ (_) :: _) _ _; first | refine s_e envOk rfl rfl rfl (step3_sub rfl rfl rfl rfl (wrap64 (by omega) (by omega))) ?_ | fail) | (show OkOps _ _ _ (Oper.mk _ (Op.pick _ _ _) _ _ _ (_) :: _) _ _; first | refine s_e envOk rfl rfl rfl (step3_pickT rfl rfl (by first | rfl | assumption) rfl) ?_ | refine s_e envOk rfl rfl rfl (step3_pickF rfl rfl (by first | rfl | assumption) rfl) ?_ | fail) | (show OkOps _ _ _ (Oper.mk _ (Op.indexAddr _ _ _) _ _ _ (_) :: _) _ _; first | refine s_e envOk rfl rfl rfl (step3_idx rfl rfl rfl rfl rfl (by first | omega | ((try simp only [decide_eq_true_eq, decide_eq_false_iff_not, Bool.not_eq_true', Bool.not_true, Bool.not_false, List.length_map, List.length_set, bne_iff_ne, ne_eq, beq_iff_eq, bne_eq_false_iff_eq, beq_eq_false_iff_ne] at *); omega)) (at_mapS (by first | omega | ((try simp only [decide_eq_true_eq, decide_eq_false_iff_not, Bool.not_eq_true', Bool.not_true, Bool.not_false, List.length_map, List.length_set, bne_iff_ne, ne_eq, beq_iff_eq, bne_eq_false_iff_eq, beq_eq_false_iff_ne] at *); omega)))) ?_ | fail) | (show OkOps _ _ _ (Oper.mk _ (Op.call _) _ _ _ (_) :: _) _ _; first | refine s_callF rfl rfl rfl rfl rfl rfl rfl rfl (ih _ (at_mem (by first | omega | ((try simp only [decide_eq_true_eq, decide_eq_false_iff_not, Bool.not_eq_true', Bool.not_true, Bool.not_false, List.length_map, List.length_set, bne_iff_ne, ne_eq, beq_iff_eq, bne_eq_false_iff_eq, beq_eq_false_iff_ne] at *); omega))) _ (by first | omega | ((try simp only [decide_eq_true_eq, decide_eq_false_iff_not, Bool.not_eq_true', Bool.not_true, Bool.not_false, List.length_map, List.length_set, bne_iff_ne, ne_eq, beq_iff_eq, bne_eq_false_iff_eq, beq_eq_false_iff_ne] at *); omega)) (by first | omega | ((try simp only [decide_eq_true_eq, decide_eq_false_iff_not, Bool.not_eq_true', Bool.not_true, Bool.not_false, List.length_map, List.length_set, bne_iff_ne, ne_eq, beq_iff_eq, bne_eq_false_iff_eq, beq_eq_false_iff_ne] at *); omega))) rfl ?_ | fail) | (show OkOps _ _ _ (Oper.mk _ (Op.box _ _) _ _ _ (_) :: _) _ _; first | refine s_box 0 rfl rfl rfl rfl rfl rfl ?_ | fail) | fail) | (show OkC _ _ _ _ _; first | refine ok_seq ?_ | refine ok_region ?_ | refine ok_block ?_ | refine ok_skip ?_ | refine ok_ret ?_ | refine ok_exit ?_ | refine ok_condF rfl ?_ | refine ok_cond rfl (fun h => ?_) (fun h => ?_) | refine s_loop 3 rfl [(1, _), (2, _)] (subL_cons rfl (subL_cons rfl subL_nil)) (fun (p : Nat × Int) => [(5, .one (.d (.int .i64 p.2))), (6, .one (.d (.int .i64 (p.1 : Int))))]) (fun (p : Nat × Int) => p.1 ≤ s.args.length ∧ 1 ≤ p.2 ∧ p.2 ≤ z + 1 ∧ countF s z = countLs (s.args.drop p.1) p.2 z) (fun (p : Nat × Int) => s.args.length - p.1) (0, 1) (subL_cons rfl (subL_cons rfl subL_nil)) ?_ (fun p ⟨hk, hn, hn2, hs⟩ => ?_) | fail) | (show thenQ _ _ _ _; first | refine then_n ?_ | refine then_x ?_ | fail) | (show blockQ _ _ _ _; first | refine block_n ?_ | refine block_x rfl ?_ | fail) | (show RetQ _ _ _ _ _ _; first | refine ret_leaf (.inl rfl) rfl rfl ?_ | fail) | (show Exists _; first | refine Exists.intro ((p.1 + 1, IntKind.i64.wrap (p.2 + countF (at_ s.args p.1) (z - p.2)))) ⟨?_, ?_, (by first | exact subL_nil | exact (subL_cons rfl subL_nil) | exact (subL_cons rfl (subL_cons rfl subL_nil)) | exact (subL_cons rfl (subL_cons rfl (subL_cons rfl subL_nil))) | exact (subL_cons rfl (subL_cons rfl (subL_cons rfl (subL_cons rfl subL_nil)))) | exact (subL_cons rfl (subL_cons rfl (subL_cons rfl (subL_cons rfl (subL_cons rfl subL_nil))))) | exact (subL_cons rfl (subL_cons rfl (subL_cons rfl (subL_cons rfl (subL_cons rfl (subL_cons rfl subL_nil)))))) | exact (subL_cons rfl (subL_cons rfl (subL_cons rfl (subL_cons rfl (subL_cons rfl (subL_cons rfl (subL_cons rfl subL_nil))))))) | exact (subL_cons rfl (subL_cons rfl (subL_cons rfl (subL_cons rfl (subL_cons rfl (subL_cons rfl (subL_cons rfl (subL_cons rfl subL_nil))))))))), (subL_cons rfl (subL_cons rfl subL_nil)), (subL_cons rfl (subL_cons rfl subL_nil))⟩ | fail) | fail)
    all_goals (try (((simp_all [countF_eq, countLs, at_drop, List.drop_eq_nil_of_le]) <;> first | omega | (rw [Bool.eq_iff_iff]; simp; omega) | grind); done))
    · rename_i hlt
      have hk' : p.1 < s.args.length := by simpa using hlt
      have hle : p.2 ≤ z := by simpa using h
      have hr := countF_range (at_ s.args p.1) (z - p.2) (by omega)
      rw [wrap64 (by omega) (by omega)]
      refine ⟨by show p.1 + 1 ≤ _; omega, by show 1 ≤ p.2 + _; omega, by show p.2 + _ ≤ _; omega, ?_⟩
      rw [hs, at_drop hk']
      simp only [countLs, hle, if_true]
end Go.Proofs.YtpejdgkaapnekaaGreat
namespace Go.Proofs.YtpejdgkaapnekaaGreat
open Go Go.Abs
attribute [local irreducible] OkOps OkC DRun thenQ blockQ RetQ
set_option maxRecDepth 10000
end Go.Proofs.YtpejdgkaapnekaaGreat
namespace Go.Proofs.YtpejdgkaapnekaaGreat
open Go Go.Abs
attribute [local irreducible] OkOps OkC DRun thenQ blockQ RetQ
set_option maxRecDepth 10000
theorem c263 (f : FuncId) (caps : List D) (p : Scalar → Bool) (hp : ∀ d : Scalar, CallA Tryz.prog f ([aggS d] ++ caps.map fun x => .one (.d x)) [] (.one (.d (.bool (p d)))) []) (l : List Scalar) :
    CallA Tryz.prog 263 [.one (.d (encScalars l)), .one (.d (.fn f caps))] [] (.one (.d (.int .i64 (idxGo p l 0)))) [] := by
  refine enter tabOk Tryz.func263 rfl (by decide +kernel) rfl fun hok w0 σ0 φ0 M => ?_
  have h1 := hok.1.sl; clear hok; simp only [List.length_map] at h1; replace h1 := h1.1
  repeat' (first | (show OkOps _ _ _ _ _ _; first | refine okops_nil ?_ | refine s_plain tabOk rfl rfl rfl rfl rfl ?_ | (show OkOps _ _ _ (Oper.mk _ (Op.binOp .add _ _ _ _) _ _ _ (_) :: _) _ _; first | refine s_e envOk rfl rfl rfl (step3_add rfl rfl rfl rfl (wrap64 (by omega) (by omega))) ?_ | fail) | (show OkOps _ _ _ (Oper.mk _ (Op.indexAddr _ _ _) _ _ _ (_) :: _) _ _; first | refine s_e envOk rfl rfl rfl (step3_idx rfl rfl rfl rfl rfl (by first | omega | ((try simp only [decide_eq_true_eq, decide_eq_false_iff_not, Bool.not_eq_true', Bool.not_true, Bool.not_false, List.length_map, List.length_set, bne_iff_ne, ne_eq, beq_iff_eq, bne_eq_false_iff_eq, beq_eq_false_iff_ne] at *); omega)) (at_mapS (by first | omega | ((try simp only [decide_eq_true_eq, decide_eq_false_iff_not, Bool.not_eq_true', Bool.not_true, Bool.not_false, List.length_map, List.length_set, bne_iff_ne, ne_eq, beq_iff_eq, bne_eq_false_iff_eq, beq_eq_false_iff_ne] at *); omega)))) ?_ | fail) | (show OkOps _ _ _ (Oper.mk _ (Op.call _) _ _ _ (_) :: _) _ _; first | refine s_callF rfl rfl rfl rfl rfl rfl rfl rfl (hp _) rfl ?_ | fail) | fail) | (show OkC _ _ _ _ _; first | refine ok_seq ?_ | refine ok_region ?_ | refine ok_block ?_ | refine ok_skip ?_ | refine ok_ret ?_ | refine ok_exit ?_ | refine ok_cond rfl (fun h => ?_) (fun h => ?_) | refine s_loop 2 rfl [(0, _), (1, _), (7, _)] (subL_cons rfl (subL_cons rfl (subL_cons rfl subL_nil))) (fun (k : Nat) => [(8, .one (.d (.int .i64 k)))]) (fun (k : Nat) => k ≤ l.length ∧ idxGo p l 0 = idxGo p (l.drop k) k) (fun (k : Nat) => l.length - k) 0 (subL_cons rfl subL_nil) ?_ (fun k ⟨hk, hs⟩ => ?_) | fail) | (show thenQ _ _ _ _; first | refine then_n ?_ | refine then_r ?_ | refine then_x ?_ | fail) | (show blockQ _ _ _ _; first | refine block_n ?_ | refine block_r ?_ | refine block_x rfl ?_ | fail) | (show RetQ _ _ _ _ _ _; first | refine ret_leaf (.inl rfl) rfl rfl ?_ | fail) | (show Exists _; first | refine Exists.intro (k + 1) ⟨?_, ?_, (by first | exact subL_nil | exact (subL_cons rfl subL_nil) | exact (subL_cons rfl (subL_cons rfl subL_nil)) | exact (subL_cons rfl (subL_cons rfl (subL_cons rfl subL_nil))) | exact (subL_cons rfl (subL_cons rfl (subL_cons rfl (subL_cons rfl subL_nil)))) | exact (subL_cons rfl (subL_cons rfl (subL_cons rfl (subL_cons rfl (subL_cons rfl subL_nil))))) | exact (subL_cons rfl (subL_cons rfl (subL_cons rfl (subL_cons rfl (subL_cons rfl (subL_cons rfl subL_nil)))))) | exact (subL_cons rfl (subL_cons rfl (subL_cons rfl (subL_cons rfl (subL_cons rfl (subL_cons rfl (subL_cons rfl subL_nil))))))) | exact (subL_cons rfl (subL_cons rfl (subL_cons rfl (subL_cons rfl (subL_cons rfl (subL_cons rfl (subL_cons rfl (subL_cons rfl subL_nil))))))))), (subL_cons rfl subL_nil), (subL_cons rfl (subL_cons rfl (subL_cons rfl subL_nil)))⟩ | fail) | fail)
  all_goals (try (((simp_all [idxGo, at_drop, List.drop_eq_nil_of_le]) <;> first | omega | (rw [Bool.eq_iff_iff]; simp; omega) | grind); done))
theorem idx_any {α : Type} {p : α → Bool} : ∀ {l : List α} {k : Nat}, decide (0 ≤ idxGo p l k) = l.any p
  | [], k => by simp [idxGo]
  | x :: r, k => by
    have ih := idx_any (p := p) (l := r) (k := k + 1)
    simp only [idxGo, List.any_cons, ← ih]
    by_cases hx : p x = true <;> simp [hx]
theorem c222 (f : FuncId) (caps : List D) (p : Scalar → Bool) (hp : ∀ d : Scalar, CallA Tryz.prog f ([aggS d] ++ caps.map fun x => .one (.d x)) [] (.one (.d (.bool (p d)))) []) (l : List Scalar) :
    CallA Tryz.prog 222 [.one (.d (encScalars l)), .one (.d (.fn f caps))] [] (.one (.d (.bool (l.any p)))) [] := by
  refine enter tabOk Tryz.func222 rfl (by decide +kernel) rfl fun hok w0 σ0 φ0 M => ?_
  clear hok
  repeat' (first | (show OkOps _ _ _ _ _ _; first | refine okops_nil ?_ | refine s_plain tabOk rfl rfl rfl rfl rfl ?_ | (show OkOps _ _ _ (Oper.mk _ (Op.call _) _ _ _ (_) :: _) _ _; first | refine s_callF rfl rfl rfl rfl rfl rfl rfl rfl (c263 f caps p hp _) rfl ?_ | fail) | fail) | (show OkC _ _ _ _ _; first | refine ok_seq ?_ | refine ok_region ?_ | refine ok_ret ?_ | fail) | (show thenQ _ _ _ _; first | refine then_n ?_ | fail) | (show RetQ _ _ _ _ _ _; first | refine ret_leaf (.inl rfl) rfl rfl ?_ | fail) | fail)
  all_goals (rw [← idx_any (k := 0)])
def deepF : Nat → Scalar → Bool
  | 0, _ => true
  | m + 1, s => s.args.any (deepF m)
theorem c223 (m : Nat) (hm : m ≤ 12) (hd : ∀ s z, z = (m : Int) → CallA Tryz.prog 172 [aggS s, .one (.d (.int .i64 z))] [] (.one (.d (.bool (deepF m s)))) []) (s : Scalar) (y : Int) (hy : y = m + 1) :
    CallA Tryz.prog 223 [aggS s, .one (.d (.ptr [.int .i64 y]))] [] (.one (.d (.bool (deepF m s)))) [] := by
  refine enter tabOk Tryz.func223 rfl (by decide +kernel) rfl fun hok w0 σ0 φ0 M => ?_
  clear hok
  repeat' (first | (show OkOps _ _ _ _ _ _; first | refine okops_nil ?_ | refine s_plain tabOk rfl rfl rfl rfl rfl ?_ | (show OkOps _ _ _ (Oper.mk _ (Op.binOp .sub _ _ _ _) _ _ _ (_) :: _) _ _; first | refine s_e envOk rfl rfl rfl (step3_sub rfl rfl rfl rfl (wrap64 (by omega) (by omega))) ?_ | fail) | (show OkOps _ _ _ (Oper.mk _ (Op.call _) _ _ _ (_) :: _) _ _; first | refine s_callF rfl rfl rfl rfl rfl rfl rfl rfl (hd _ _ (by omega)) rfl ?_ | fail) | (show OkOps _ _ _ (Oper.mk _ (Op.box _ _) _ _ _ (_) :: _) _ _; first | refine s_box 0 rfl rfl rfl rfl rfl rfl ?_ | fail) | fail) | (show OkC _ _ _ _ _; first | refine ok_seq ?_ | refine ok_region ?_ | refine ok_ret ?_ | fail) | (show thenQ _ _ _ _; first | refine then_n ?_ | fail) | (show RetQ _ _ _ _ _ _; first | refine ret_leaf (.inl rfl) rfl rfl ?_ | fail) | fail)
  all_goals (try (((simp_all [at_drop, List.drop_eq_nil_of_le]) <;> first | omega | (rw [Bool.eq_iff_iff]; simp; omega) | grind); done))
theorem c172 : ∀ (m : Nat) (s : Scalar) (z : Int), z = m → m ≤ 12 → CallA Tryz.prog 172 [aggS s, .one (.d (.int .i64 z))] [] (.one (.d (.bool (deepF m s)))) []
  | 0, s, z, hz, hm => by
    subst hz
    refine enter tabOk Tryz.func172 rfl (by decide +kernel) rfl fun hok w0 σ0 φ0 M => ?_
    clear hok
    repeat' (first | (show OkOps _ _ _ _ _ _; first | refine okops_nil ?_ | refine s_plain tabOk rfl rfl rfl rfl rfl ?_ | (show OkOps _ _ _ (Oper.mk _ (_) _ _ _ (some _) :: _) _ _; first | refine s_out rfl rfl (by first | assumption | rfl) rfl rfl ?_ | fail) | (show OkOps _ _ _ (Oper.mk _ (Op.pick _ _ _) _ _ _ (_) :: _) _ _; first | refine s_e envOk rfl rfl rfl (step3_pickT rfl rfl (by first | rfl | assumption) rfl) ?_ | fail) | (show OkOps _ _ _ (Oper.mk _ (Op.box _ _) _ _ _ (_) :: _) _ _; first | refine s_box 0 rfl rfl rfl rfl rfl rfl ?_ | refine s_box 1 rfl rfl rfl rfl rfl rfl ?_ | fail) | fail) | (show OkC _ _ _ _ _; first | refine ok_seq ?_ | refine ok_region ?_ | refine ok_ret ?_ | fail) | (show thenQ _ _ _ _; first | refine then_n ?_ | fail) | (show RetQ _ _ _ _ _ _; first | refine ret_leaf (.inl rfl) rfl rfl ?_ | fail) | fail)
    all_goals (try (((simp_all [deepF, at_drop, List.drop_eq_nil_of_le]) <;> first | omega | (rw [Bool.eq_iff_iff]; simp; omega) | grind); done))
    all_goals trace_state
  | m + 1, s, z, hz, hm => by
    have hz : z = m + 1 := by omega
    refine enter tabOk Tryz.func172 rfl (by decide +kernel) rfl fun hok w0 σ0 φ0 M => ?_
    clear hok
    repeat' (first | (show OkOps _ _ _ _ _ _; first | refine okops_nil ?_ | refine s_plain tabOk rfl rfl rfl rfl rfl ?_ | (show OkOps _ _ _ (Oper.mk _ (_) _ _ _ (some _) :: _) _ _; first | refine s_guard rfl rfl (by first | assumption | rfl) ?_ | refine s_out rfl rfl (by first | assumption | rfl) rfl rfl ?_ | refine s_split rfl rfl rfl rfl (fun h => ?_) (fun h => ?_) | fail) | (show OkOps _ _ _ (Oper.mk _ (Op.pick _ _ _) _ _ _ (_) :: _) _ _; first | refine s_e envOk rfl rfl rfl (step3_pickT rfl rfl (by first | rfl | assumption) rfl) ?_ | refine s_e envOk rfl rfl rfl (step3_pickF rfl rfl (by first | rfl | assumption) rfl) ?_ | fail) | (show OkOps _ _ _ (Oper.mk _ (Op.call _) _ _ _ (_) :: _) _ _; first | refine s_callF rfl rfl rfl rfl rfl rfl rfl rfl (c222 _ _ (deepF m) (fun d => c223 m (by omega) (fun s z hz => c172 m s z hz (by omega)) d _ hz) _) rfl ?_ | fail) | (show OkOps _ _ _ (Oper.mk _ (Op.box _ _) _ _ _ (_) :: _) _ _; first | refine s_box 0 rfl rfl rfl rfl rfl rfl ?_ | refine s_box 1 rfl rfl rfl rfl rfl rfl ?_ | fail) | refine s_mkF envOk rfl rfl rfl rfl rfl ?_ | fail) | (show OkC _ _ _ _ _; first | refine ok_seq ?_ | refine ok_region ?_ | refine ok_ret ?_ | fail) | (show thenQ _ _ _ _; first | refine then_n ?_ | fail) | (show RetQ _ _ _ _ _ _; first | refine ret_leaf (.inl rfl) rfl rfl ?_ | fail) | fail)
    all_goals (try (((simp_all [deepF, at_drop, List.drop_eq_nil_of_le]) <;> first | omega | (rw [Bool.eq_iff_iff]; simp; omega) | grind); done))
    all_goals trace_state
end Go.Proofs.YtpejdgkaapnekaaGreat
namespace Go.Proofs.YtpejdgkaapnekaaGreat
open Go Go.Abs
attribute [local irreducible] OkOps OkC DRun thenQ blockQ RetQ
set_option maxRecDepth 10000
def encDig (n : Int) : List D := [.int .u32 n]
def encDigs (l : List Int) : D := .sl 1 4 (l.map encDig)
def digs (z : Int) : List Int := if z = 0 then [] else if z < 1000000000 then [z] else [z % 1000000000, z / 1000000000]
theorem c342 (l : List Int) (i : Nat) (h : ∀ x ∈ l, 0 ≤ x ∧ x < 1000000000) : CallA Tryz.prog 342 [.one (.d (encDigs l)), .one (.d (.int .i64 i))] [] (.one (.d (.int .u64 (at_ l i)))) [] := by
  refine enter tabOk Tryz.func342 rfl (by decide +kernel) rfl fun hok w0 σ0 φ0 M => ?_
  clear hok
  have hb : i < l.length → 0 ≤ at_ l i ∧ at_ l i < 1000000000 := fun hi => h _ (at_mem hi)
  repeat' (first | (show OkOps _ _ _ _ _ _; first | refine okops_nil ?_ | refine s_plain tabOk rfl rfl rfl rfl rfl ?_ | (show OkOps _ _ _ (Oper.mk _ (Op.convert _ _ _) _ _ _ (_) :: _) _ _; first | refine s_val tabOk rfl rfl rfl rfl ?_ | fail) | (show OkOps _ _ _ (Oper.mk _ (Op.indexAddr _ _ _) _ _ _ (_) :: _) _ _; first | refine s_e envOk rfl rfl rfl (step3_idx rfl rfl rfl rfl rfl (by first | omega | ((try simp only [decide_eq_true_eq, decide_eq_false_iff_not, Bool.not_eq_true', Bool.not_true, Bool.not_false, List.length_map, List.length_set, bne_iff_ne, ne_eq, beq_iff_eq, bne_eq_false_iff_eq, beq_eq_false_iff_ne] at *); omega)) (at_map (by first | omega | ((try simp only [decide_eq_true_eq, decide_eq_false_iff_not, Bool.not_eq_true', Bool.not_true, Bool.not_false, List.length_map, List.length_set, bne_iff_ne, ne_eq, beq_iff_eq, bne_eq_false_iff_eq, beq_eq_false_iff_ne] at *); omega)))) ?_ | fail) | fail) | (show OkC _ _ _ _ _; first | refine ok_seq ?_ | refine ok_region ?_ | refine ok_skip ?_ | refine ok_ret ?_ | refine ok_cond rfl (fun h => ?_) (fun h => ?_) | fail) | (show thenQ _ _ _ _; first | refine then_n ?_ | refine then_r ?_ | fail) | (show RetQ _ _ _ _ _ _; first | refine ret_leaf (.inl rfl) rfl rfl ?_ | fail) | fail)
  · have hi : i < l.length := by simpa using h
    have := hb hi
    show AV.one (.d (.int .u64 (IntKind.u64.wrap (at_ l i)))) = _
    rw [wrapu64 (by omega) (by omega)]
  · have hi : l.length ≤ i := by simpa using h
    simp [at_, List.getD_eq_getElem?_getD, hi]
theorem c268 (z : Int) (h0 : 0 ≤ z) (h1 : z < 1000000000000000000) : CallA Tryz.prog 268 [.one (.d (.int .u64 z))] [] (.one (.d (encDigs (digs z)))) [] := by
  refine enter tabOk Tryz.func268 rfl (by decide +kernel) rfl fun hok w0 σ0 φ0 M => ?_
  clear hok
  repeat' (first | (show OkOps _ _ _ _ _ _; first | refine okops_nil ?_ | refine s_plain tabOk rfl rfl rfl rfl rfl ?_ | (show OkOps _ _ _ (Oper.mk _ (Op.binOp .rem _ _ _ _) _ _ _ (_) :: _) _ _; first | refine s_e envOk rfl rfl rfl (step3_remE rfl rfl rfl rfl (by omega) (by omega)) ?_ | fail) | (show OkOps _ _ _ (Oper.mk _ (Op.binOp .quo _ _ _ _) _ _ _ (_) :: _) _ _; first | refine s_e envOk rfl rfl rfl (step3_quoE rfl rfl rfl rfl (by omega) (by omega) (wrapu64 (by omega) (by omega))) ?_ | fail) | (show OkOps _ _ _ (Oper.mk _ (Op.convert _ _ _) _ _ _ (_) :: _) _ _; first | refine s_e envOk rfl rfl rfl (step3_conv rfl rfl rfl rfl (wrapu32 (by omega) (by omega))) ?_ | fail) | refine s_new envOk 0 rfl rfl rfl rfl rfl rfl ?_ | refine s_new envOk 1 rfl rfl rfl rfl rfl rfl ?_ | refine s_new envOk 2 rfl rfl rfl rfl rfl rfl ?_ | refine s_new envOk 3 rfl rfl rfl rfl rfl rfl ?_ | refine s_new envOk 4 rfl rfl rfl rfl rfl rfl ?_ | refine s_new envOk 5 rfl rfl rfl rfl rfl rfl ?_ | fail) | (show OkC _ _ _ _ _; first | refine okc_imp (imp_sealL (dl := [3]) rfl) (ok_ret ?_) | refine okc_imp (imp_sealL (dl := [1]) rfl) (ok_ret ?_) | refine okc_imp (imp_nil (s := 2) (k := 1) (b := 4) rfl) (ok_ret ?_) | refine ok_seq ?_ | refine ok_region ?_ | refine ok_block ?_ | refine ok_skip ?_ | refine ok_exit ?_ | refine ok_cond rfl (fun h => ?_) (fun h => ?_) | refine ok_rounds 2 rfl 3 ?_ | fail) | (show thenQ _ _ _ _; first | refine then_n ?_ | refine then_x ?_ | fail) | (show blockQ _ _ _ _; first | refine block_n ?_ | refine block_x rfl ?_ | fail) | (show RetQ _ _ _ _ _ _; first | refine ret_leaf (.inl rfl) rfl rfl ?_ | fail) | fail)
  all_goals (try simp only [decide_eq_true_eq, decide_eq_false_iff_not] at *)
  · omega
  · have e : digs z = [z % 1000000000, z / 1000000000 % 1000000000] := by
      have : z / 1000000000 % 1000000000 = z / 1000000000 := by omega
      rw [this]; unfold digs; rw [if_neg (by omega), if_neg (by omega)]
    rw [e]; rfl
  · have e : digs z = [z % 1000000000] := by
      have : z % 1000000000 = z := by omega
      rw [this]; unfold digs; rw [if_neg (by omega), if_pos (by omega)]
    rw [e]; rfl
  · have e : digs z = [] := by unfold digs; rw [if_pos (by omega)]
    rw [e]; rfl
end Go.Proofs.YtpejdgkaapnekaaGreat
namespace Go.Proofs.YtpejdgkaapnekaaGreat
open Go Go.Abs
attribute [local irreducible] OkOps OkC DRun thenQ blockQ RetQ
set_option maxRecDepth 10000
theorem digs_mem {z : Int} (h0 : 0 ≤ z) (h1 : z < 1000000000000000000) : ∀ x ∈ digs z, 0 ≤ x ∧ x < 1000000000 := by
  intro x hx
  unfold digs at hx
  split at hx
  · simp at hx
  · split at hx
    · simp at hx; omega
    · simp at hx; omega
theorem digs_at {z : Int} (h0 : 0 ≤ z) (h1 : z < 1000000000000000000) : at_ (digs z) 0 + 1000000000 * at_ (digs z) 1 = z ∧ 0 ≤ at_ (digs z) 0 ∧ at_ (digs z) 0 < 1000000000 ∧ 0 ≤ at_ (digs z) 1 ∧ at_ (digs z) 1 < 1000000000 := by
  unfold digs
  split
  · rename_i h; subst h; exact ⟨rfl, by decide, by decide, by decide, by decide⟩
  · split
    · show z + 1000000000 * 0 = z ∧ 0 ≤ z ∧ z < 1000000000 ∧ (0 : Int) ≤ 0 ∧ (0 : Int) < 1000000000
      omega
    · show z % 1000000000 + 1000000000 * (z / 1000000000) = z ∧ 0 ≤ z % 1000000000 ∧ z % 1000000000 < 1000000000 ∧ 0 ≤ z / 1000000000 ∧ z / 1000000000 < 1000000000
      omega
theorem digs_len {z : Int} : (digs z).length ≤ 2 := by
  unfold digs
  split
  · simp
  · split <;> simp
theorem digs_pos {z : Int} : 0 < (digs z).length ↔ z ≠ 0 := by
  unfold digs
  split
  · simp_all
  · split <;> simp_all
theorem c343 (z : Int) (h0 : 0 ≤ z) (h1 : z < 1000000000000000000) : CallA Tryz.prog 343 [.one (.d (encDigs (digs z)))] [] (.one (.d (.int .u64 z))) [] := by
  refine enter tabOk Tryz.func343 rfl (by decide +kernel) rfl fun hok w0 σ0 φ0 M => ?_
  clear hok
  have hm := digs_mem h0 h1
  obtain ⟨he, ha, hb, hc, hd⟩ := digs_at h0 h1
  repeat' (first | (show OkOps _ _ _ _ _ _; first | refine okops_nil ?_ | refine s_plain tabOk rfl rfl rfl rfl rfl ?_ | (show OkOps _ _ _ (Oper.mk _ (Op.binOp .add _ _ _ _) _ _ _ (_) :: _) _ _; first | refine s_e envOk rfl rfl rfl (step3_add rfl rfl rfl rfl (wrapu64 (by omega) (by omega))) ?_ | fail) | (show OkOps _ _ _ (Oper.mk _ (Op.binOp .mul _ _ _ _) _ _ _ (_) :: _) _ _; first | refine s_e envOk rfl rfl rfl (step3_mul rfl rfl rfl rfl (wrapu64 (by omega) (by omega))) ?_ | fail) | (show OkOps _ _ _ (Oper.mk _ (Op.call _) _ _ _ (_) :: _) _ _; first | refine s_callF rfl rfl rfl rfl rfl rfl rfl rfl (c342 _ 0 hm) rfl ?_ | refine s_callF rfl rfl rfl rfl rfl rfl rfl rfl (c342 _ 1 hm) rfl ?_ | fail) | fail) | (show OkC _ _ _ _ _; first | refine ok_seq ?_ | refine ok_region ?_ | refine ok_ret ?_ | fail) | (show thenQ _ _ _ _; first | refine then_n ?_ | fail) | (show RetQ _ _ _ _ _ _; first | refine ret_leaf (.inl rfl) rfl rfl ?_ | fail) | fail)
  all_goals (rw [he])
theorem wrap_neg {n : Int} (h0 : -1099511627776 ≤ n) (h : n < 0) : IntKind.u64.wrap (0 - IntKind.u64.wrap n) = -n := by
  simp only [IntKind.wrap, IntKind.signed, IntKind.bits, Bool.false_and, Bool.false_eq_true, if_false]
  omega
theorem c267 (n : Int) (h0 : -1099511627776 ≤ n) (h1 : n ≤ 1099511627776) : CallA Tryz.prog 267 [.one (.d (.int .i64 n))] [] (.one (.d (encDigs (digs (max n (-n)))))) [] := by
  refine enter tabOk Tryz.func267 rfl (by decide +kernel) rfl fun hok w0 σ0 φ0 M => ?_
  clear hok
  repeat' (first | (show OkOps _ _ _ _ _ _; first | refine okops_nil ?_ | refine s_plain tabOk rfl rfl rfl rfl rfl ?_ | (show OkOps _ _ _ (Oper.mk _ (Op.binOp .sub _ _ _ _) _ _ _ (_) :: _) _ _; first | refine s_val tabOk rfl rfl rfl rfl ?_ | fail) | (show OkOps _ _ _ (Oper.mk _ (Op.convert _ _ _) _ _ _ (_) :: _) _ _; first | refine s_e envOk rfl rfl rfl (step3_conv rfl rfl rfl rfl (wrapu64 (by first | omega | ((try simp only [decide_eq_true_eq, decide_eq_false_iff_not, Bool.not_eq_true', Bool.not_true, Bool.not_false, List.length_map, List.length_set, bne_iff_ne, ne_eq, beq_iff_eq, bne_eq_false_iff_eq, beq_eq_false_iff_ne] at *); omega)) (by first | omega | ((try simp only [decide_eq_true_eq, decide_eq_false_iff_not, Bool.not_eq_true', Bool.not_true, Bool.not_false, List.length_map, List.length_set, bne_iff_ne, ne_eq, beq_iff_eq, bne_eq_false_iff_eq, beq_eq_false_iff_ne] at *); omega)))) ?_ | refine s_val tabOk rfl rfl rfl rfl ?_ | fail) | fail) | (show OkC _ _ _ _ _; first | refine ok_seq ?_ | refine ok_region ?_ | refine ok_skip ?_ | refine ok_cond rfl (fun h => ?_) (fun h => ?_) | fail) | (show thenQ _ _ _ _; first | refine then_n ?_ | fail) | fail)
  · have hn : n < 0 := by simpa using h
    rw [wrap_neg h0 hn]
    refine s_callD 16 rfl rfl rfl rfl rfl rfl rfl rfl (c268 (-n) (by omega) (by omega)) rfl rfl (rav' := .one (.d (encDigs (digs (-n))))) rfl ?_
    repeat' (first | (show OkOps _ _ _ _ _ _; first | refine okops_nil ?_ | refine s_plain tabOk rfl rfl rfl rfl rfl ?_ | fail) | (show OkC _ _ _ _ _; first | refine ok_ret ?_ | fail) | (show thenQ _ _ _ _; first | refine then_n ?_ | refine then_r ?_ | fail) | (show RetQ _ _ _ _ _ _; first | refine ret_leaf (.inl rfl) rfl rfl ?_ | fail) | fail)
    rw [show max n (-n) = -n by omega]
  · have hn : 0 ≤ n := by simpa using h
    refine s_callD 16 rfl rfl rfl rfl rfl rfl rfl rfl (c268 n (by omega) (by omega)) rfl rfl (rav' := .one (.d (encDigs (digs n)))) rfl ?_
    repeat' (first | (show OkOps _ _ _ _ _ _; first | refine okops_nil ?_ | refine s_plain tabOk rfl rfl rfl rfl rfl ?_ | fail) | (show OkC _ _ _ _ _; first | refine ok_ret ?_ | fail) | (show thenQ _ _ _ _; first | refine then_n ?_ | fail) | (show RetQ _ _ _ _ _ _; first | refine ret_leaf (.inl rfl) rfl rfl ?_ | fail) | fail)
    rw [show max n (-n) = n by omega]
end Go.Proofs.YtpejdgkaapnekaaGreat
namespace Go.Proofs.YtpejdgkaapnekaaGreat
open Go Go.Abs
attribute [local irreducible] OkOps OkC DRun thenQ blockQ RetQ
set_option maxRecDepth 10000
theorem div_range {x y : Int} (hx : 0 ≤ x) (hx1 : x < 1000000000000000000) (hy : 0 < y) : 0 ≤ x / y ∧ x / y < 1000000000000000000 := by
  refine ⟨Int.ediv_nonneg hx (by omega), ?_⟩
  have h1 := Int.ediv_le_self y hx
  omega
theorem mod_range {x y : Int} (hx : 0 ≤ x) (hx1 : x < 1000000000000000000) (hy : 0 < y) : 0 ≤ x % y ∧ x % y < 1000000000000000000 := by
  refine ⟨Int.emod_nonneg x (by omega), ?_⟩
  have := emod_le_self hx hy
  omega
theorem c287 (x y : Int) (hx : 0 ≤ x) (hx1 : x < 1000000000000000000) (hy : 0 < y) (hy1 : y < 1000000000000000000) : CallA Tryz.prog 287 [.one (.d (encDigs (digs x))), .one (.d (encDigs (digs y)))] [] (.tup [(false, [.d (encDigs (digs (x / y)))]), (false, [.d (encDigs (digs (x % y)))])]) [] := by
  refine enter tabOk Tryz.func287 rfl (by decide +kernel) rfl fun hok w0 σ0 φ0 M => ?_
  clear hok
  have hl1 := digs_len (z := x); have hl2 := digs_len (z := y)
  have hd := div_range hx hx1 hy; have hm := mod_range hx hx1 hy
  repeat' (first | (show OkOps _ _ _ _ _ _; first | refine okops_nil ?_ | refine s_plain tabOk rfl rfl rfl rfl rfl ?_ | (show OkOps _ _ _ (Oper.mk _ (_) _ _ _ (some _) :: _) _ _; first | refine s_guard rfl rfl (by first | assumption | rfl) ?_ | refine s_out rfl rfl (by first | assumption | rfl) rfl rfl ?_ | refine s_split rfl rfl rfl rfl (fun h => ?_) (fun h => ?_) | fail) | (show OkOps _ _ _ (Oper.mk _ (Op.binOp .rem _ _ _ _) _ _ _ (_) :: _) _ _; first | refine s_e envOk rfl rfl rfl (step3_remE rfl rfl rfl rfl (by omega) (by omega)) ?_ | fail) | (show OkOps _ _ _ (Oper.mk _ (Op.binOp .quo _ _ _ _) _ _ _ (_) :: _) _ _; first | refine s_e envOk rfl rfl rfl (step3_quoE rfl rfl rfl rfl (by omega) (by omega) (wrapu64 (by omega) (by omega))) ?_ | fail) | (show OkOps _ _ _ (Oper.mk _ (Op.pick _ _ _) _ _ _ (_) :: _) _ _; first | refine s_e envOk rfl rfl rfl (step3_pickT rfl rfl (by first | rfl | assumption) rfl) ?_ | refine s_e envOk rfl rfl rfl (step3_pickF rfl rfl (by first | rfl | assumption) rfl) ?_ | fail) | (show OkOps _ _ _ (Oper.mk _ (Op.call _) _ _ _ (_) :: _) _ _; first | refine s_callF rfl rfl rfl rfl rfl rfl rfl rfl (c343 x (by omega) (by omega)) rfl ?_ | refine s_callF rfl rfl rfl rfl rfl rfl rfl rfl (c343 y (by omega) (by omega)) rfl ?_ | refine s_callD 16 rfl rfl rfl rfl rfl rfl rfl rfl (c268 (x / y) (by omega) (by omega)) rfl rfl rfl ?_ | refine s_callD 16 rfl rfl rfl rfl rfl rfl rfl rfl (c268 (x % y) (by omega) (by omega)) rfl rfl rfl ?_ | fail) | fail) | (show OkC _ _ _ _ _; first | refine ok_seq ?_ | refine ok_region ?_ | refine ok_skip ?_ | refine ok_ret ?_ | refine ok_condF rfl ?_ | refine ok_cond rfl (fun h => ?_) (fun h => ?_) | fail) | (show thenQ _ _ _ _; first | refine then_n ?_ | refine then_r ?_ | fail) | (show RetQ _ _ _ _ _ _; first | refine ret_leaf (.inl rfl) rfl rfl ?_ | fail) | fail)
  · rfl
  · exfalso; simp at h; omega
  · exfalso; simp at h; omega
theorem digs_zero {z : Int} : (digs z).length = 0 ↔ z = 0 := by
  have := digs_pos (z := z)
  omega
theorem c266 (x y : Int) (hx : 0 ≤ x) (hx1 : x < 1000000000000000000) (hy : 0 ≤ y) (hy1 : y < 1000000000000000000) : CallA Tryz.prog 266 [.one (.d (encDigs (digs x))), .one (.d (encDigs (digs y)))] [] (.one (.d (encDigs (digs (Int.gcd x y))))) [] := by
  refine enter tabOk Tryz.func266 rfl (by decide +kernel) rfl fun hok w0 σ0 φ0 M => ?_
  clear hok
  repeat' (first | (show OkOps _ _ _ _ _ _; first | refine okops_nil ?_ | refine s_plain tabOk rfl rfl rfl rfl rfl ?_ | (show OkOps _ _ _ (Oper.mk _ (Op.call _) _ _ _ (_) :: _) _ _; first | refine s_callD 16 rfl rfl rfl rfl rfl rfl rfl rfl (c287 p.1 p.2 (by first | omega | ((try simp only [decide_eq_true_eq, decide_eq_false_iff_not, Bool.not_eq_true', Bool.not_true, Bool.not_false, List.length_map, List.length_set, bne_iff_ne, ne_eq, beq_iff_eq, bne_eq_false_iff_eq, beq_eq_false_iff_ne] at *); omega)) (by first | omega | ((try simp only [decide_eq_true_eq, decide_eq_false_iff_not, Bool.not_eq_true', Bool.not_true, Bool.not_false, List.length_map, List.length_set, bne_iff_ne, ne_eq, beq_iff_eq, bne_eq_false_iff_eq, beq_eq_false_iff_ne] at *); omega)) (by first | omega | ((try simp only [decide_eq_true_eq, decide_eq_false_iff_not, Bool.not_eq_true', Bool.not_true, Bool.not_false, List.length_map, List.length_set, bne_iff_ne, ne_eq, beq_iff_eq, bne_eq_false_iff_eq, beq_eq_false_iff_ne] at *); omega)) (by first | omega | ((try simp only [decide_eq_true_eq, decide_eq_false_iff_not, Bool.not_eq_true', Bool.not_true, Bool.not_false, List.length_map, List.length_set, bne_iff_ne, ne_eq, beq_iff_eq, bne_eq_false_iff_eq, beq_eq_false_iff_ne] at *); omega))) rfl rfl rfl ?_ | fail) | fail) | (show OkC _ _ _ _ _; first | refine ok_seq ?_ | refine ok_region ?_ | refine ok_block ?_ | refine ok_skip ?_ | refine ok_ret ?_ | refine ok_exit ?_ | refine ok_cond rfl (fun h => ?_) (fun h => ?_) | refine s_loop 1 rfl [] subL_nil (fun (p : Int × Int) => [(0, .one (.d (encDigs (digs p.1)))), (1, .one (.d (encDigs (digs p.2))))]) (fun (p : Int × Int) => (0 ≤ p.1 ∧ p.1 < 1000000000000000000) ∧ (0 ≤ p.2 ∧ p.2 < 1000000000000000000) ∧ ((digs p.2).length = 0 ↔ p.2 = 0) ∧ Int.gcd p.1 p.2 = Int.gcd x y) (fun (p : Int × Int) => p.2.toNat) (x, y) (subL_cons rfl (subL_cons rfl subL_nil)) ?_ (fun p ⟨h1, h2, h3, h4⟩ => ?_) | fail) | (show thenQ _ _ _ _; first | refine then_n ?_ | refine then_x ?_ | fail) | (show blockQ _ _ _ _; first | refine block_n ?_ | refine block_x rfl ?_ | fail) | (show RetQ _ _ _ _ _ _; first | refine ret_leaf (.inl rfl) rfl rfl ?_ | fail) | (show Exists _; first | refine Exists.intro ((p.2, p.1 % p.2)) ⟨?_, ?_, (by first | exact subL_nil | exact (subL_cons rfl subL_nil) | exact (subL_cons rfl (subL_cons rfl subL_nil)) | exact (subL_cons rfl (subL_cons rfl (subL_cons rfl subL_nil))) | exact (subL_cons rfl (subL_cons rfl (subL_cons rfl (subL_cons rfl subL_nil)))) | exact (subL_cons rfl (subL_cons rfl (subL_cons rfl (subL_cons rfl (subL_cons rfl subL_nil))))) | exact (subL_cons rfl (subL_cons rfl (subL_cons rfl (subL_cons rfl (subL_cons rfl (subL_cons rfl subL_nil)))))) | exact (subL_cons rfl (subL_cons rfl (subL_cons rfl (subL_cons rfl (subL_cons rfl (subL_cons rfl (subL_cons rfl subL_nil))))))) | exact (subL_cons rfl (subL_cons rfl (subL_cons rfl (subL_cons rfl (subL_cons rfl (subL_cons rfl (subL_cons rfl (subL_cons rfl subL_nil))))))))), (subL_cons rfl (subL_cons rfl subL_nil)), subL_nil⟩ | fail) | fail)
  · exact ⟨⟨hx, hx1⟩, ⟨hy, hy1⟩, digs_zero, rfl⟩
  · have hp : p.2 ≠ 0 := by
      intro e
      have := h3.2 e
      simp [this] at h
    refine ⟨h2, mod_range h1.1 h1.2 (by omega), digs_zero, ?_⟩
    show Int.gcd p.2 (p.1 % p.2) = _
    rw [← h4]
    obtain ⟨a, ha⟩ := Int.eq_ofNat_of_zero_le h1.1
    obtain ⟨b, hb⟩ := Int.eq_ofNat_of_zero_le h2.1
    rw [ha, hb]
    show Nat.gcd b (a % b) = Nat.gcd a b
    rw [Nat.gcd_comm, ← Nat.gcd_rec, Nat.gcd_comm]
  · have hp : p.2 ≠ 0 := by
      intro e
      have := h3.2 e
      simp [this] at h
    have h5 := Int.emod_lt_of_pos p.1 (show 0 < p.2 by omega)
    have h6 := Int.emod_nonneg p.1 hp
    show (p.1 % p.2).toNat < p.2.toNat
    omega
  · have hp : p.2 = 0 := h3.1 (by simpa using h)
    rw [hp] at h4
    have : ((Int.gcd p.1 0 : Nat) : Int) = p.1 := by
      rw [Int.gcd_zero_right]; omega
    rw [← h4, this]
end Go.Proofs.YtpejdgkaapnekaaGreat
namespace Go.Proofs.YtpejdgkaapnekaaGreat
open Go Go.Abs
attribute [local irreducible] OkOps OkC DRun thenQ blockQ RetQ
set_option maxRecDepth 10000
def cmp1 (l : List Int) : Int := if (l.length : Int) < 1 then -1 else if 1 < (l.length : Int) then 1 else if at_ l 0 < 1 then -1 else if 1 < at_ l 0 then 1 else 0
theorem c265 (l : List Int) : CallA Tryz.prog 265 [.one (.d (encDigs l)), .one (.d (encDigs [1]))] [] (.one (.d (.int .i64 (cmp1 l)))) [] := by
  refine enter tabOk Tryz.func265 rfl (by decide +kernel) rfl fun hok w0 σ0 φ0 M => ?_
  have h1 := hok.1.sl.1; clear hok; simp only [List.length_map] at h1
  repeat' (first | (show OkOps _ _ _ _ _ _; first | refine okops_nil ?_ | refine s_plain tabOk rfl rfl rfl rfl rfl ?_ | (show OkOps _ _ _ (Oper.mk _ (Op.binOp .sub _ _ _ _) _ _ _ (_) :: _) _ _; first | refine s_e envOk rfl rfl rfl (step3_sub rfl rfl rfl rfl (wrap64 (by first | omega | ((try simp only [decide_eq_true_eq, decide_eq_false_iff_not, Bool.not_eq_true', Bool.not_true, Bool.not_false, List.length_map, List.length_set, bne_iff_ne, ne_eq, beq_iff_eq, bne_eq_false_iff_eq, beq_eq_false_iff_ne] at *); omega)) (by first | omega | ((try simp only [decide_eq_true_eq, decide_eq_false_iff_not, Bool.not_eq_true', Bool.not_true, Bool.not_false, List.length_map, List.length_set, bne_iff_ne, ne_eq, beq_iff_eq, bne_eq_false_iff_eq, beq_eq_false_iff_ne] at *); omega)))) ?_ | fail) | fail) | (show OkC _ _ _ _ _; first | refine ok_seq ?_ | refine ok_region ?_ | refine ok_block ?_ | refine ok_skip ?_ | refine ok_ret ?_ | refine ok_exit ?_ | refine ok_cond rfl (fun h => ?_) (fun h => ?_) | refine ok_regionD progOk.mo ?_ | refine ok_rounds 6 rfl 3 ?_ | fail) | (show thenQ _ _ _ _; first | refine then_n ?_ | refine then_r ?_ | refine then_x ?_ | fail) | (show blockQ _ _ _ _; first | refine block_n ?_ | refine block_r ?_ | refine block_x rfl ?_ | fail) | (show RetQ _ _ _ _ _ _; first | refine ret_leaf (.inl rfl) rfl rfl ?_ | fail) | (show DRun _ _ _ _ _ _ _ _; first | refine d_nil (by kernel_rfl) ?_ | refine d_e envOk rfl rfl rfl (step3_plain rfl rfl) ?_ | (show DRun _ _ _ _ (Oper.mk _ (Op.indexAddr _ _ _) _ _ _ (_) :: _) _ _ _; first | refine d_e envOk rfl rfl rfl (step3_idx rfl rfl rfl rfl rfl (by first | omega | ((try simp only [decide_eq_true_eq, decide_eq_false_iff_not, Bool.not_eq_true', Bool.not_true, Bool.not_false, List.length_map, List.length_set, bne_iff_ne, ne_eq, beq_iff_eq, bne_eq_false_iff_eq, beq_eq_false_iff_ne] at *); omega)) (at_map (by first | omega | ((try simp only [decide_eq_true_eq, decide_eq_false_iff_not, Bool.not_eq_true', Bool.not_true, Bool.not_false, List.length_map, List.length_set, bne_iff_ne, ne_eq, beq_iff_eq, bne_eq_false_iff_eq, beq_eq_false_iff_ne] at *); omega)))) ?_ | fail) | fail) | fail)
  all_goals (try (((simp_all [cmp1, at_drop, List.drop_eq_nil_of_le]) <;> first | omega | (rw [Bool.eq_iff_iff]; simp; omega) | grind); done))
  all_goals (try simp only [decide_eq_true_eq, decide_eq_false_iff_not, bne_eq_false_iff_eq, List.length_map, List.length_cons, List.length_nil] at *)
  all_goals (have hl : l.length = 1 := by omega)
  all_goals (obtain ⟨a, rfl⟩ := List.length_eq_one_iff.1 hl)
  all_goals (simp [cmp1, at_] at *; try omega)
end Go.Proofs.YtpejdgkaapnekaaGreat
namespace Go.Proofs.YtpejdgkaapnekaaGreat
open Go Go.Abs
attribute [local irreducible] OkOps OkC DRun thenQ blockQ RetQ
set_option maxRecDepth 10000
theorem cmp1_iff {g : Int} (h0 : 0 ≤ g) : (cmp1 (digs g) == 0) = (g == 1) := by
  unfold digs
  split
  · rename_i h; subst h; rfl
  · split
    · rename_i h1 h2
      simp [cmp1, at_]
      rw [Bool.eq_iff_iff]; simp
      split <;> (try split) <;> omega
    · rename_i h1 h2
      have : (g == 1) = false := by simp; omega
      rw [this]; simp [cmp1]
theorem gcd_eq {n d : Int} (hd : 1 ≤ d) : Int.gcd (max n (-n)) (max d (-d)) = Nat.gcd n.natAbs d.toNat := by
  unfold Int.gcd
  congr 1 <;> omega
theorem c268one : CallA Tryz.prog 268 [.one (.d (.int .u64 1))] [] (.one (.d (encDigs [1]))) [] := c268 1 (by omega) (by omega)
theorem c227 (k' n d : Int) (s : List UInt8) : CallA Tryz.prog 227 [.agg [.d (.int .i64 k'), .d (.int .i64 n), .d (.int .i64 d), .d (.str s)]] [] (.one (.d (.int .i64 (if rightF k' n d s then 0 else 2)))) [] := by
  refine enter tabOk Tryz.func227 rfl (by decide +kernel) rfl fun hok w0 σ0 φ0 M => ?_
  have hl := (hok.1 (.d (.str s)) (by simp)); replace hl := OkD.str hl; clear hok
  repeat' (first | (show OkOps _ _ _ _ _ _; first | refine okops_nil ?_ | refine s_plain tabOk rfl rfl rfl rfl rfl ?_ | (show OkOps _ _ _ (Oper.mk _ (_) _ _ _ (some _) :: _) _ _; first | refine s_guard rfl rfl (by first | assumption | rfl) ?_ | refine s_out rfl rfl (by first | assumption | rfl) rfl rfl ?_ | refine s_split rfl rfl rfl rfl (fun h => ?_) (fun h => ?_) | fail) | (show OkOps _ _ _ (Oper.mk _ (Op.binOp .add _ _ _ _) _ _ _ (_) :: _) _ _; first | refine s_e envOk rfl rfl rfl (step3_add rfl rfl rfl rfl (wrap64 (by omega) (by omega))) ?_ | fail) | (show OkOps _ _ _ (Oper.mk _ (Op.pick _ _ _) _ _ _ (_) :: _) _ _; first | refine s_e envOk rfl rfl rfl (step3_pickT rfl rfl (by first | rfl | assumption) rfl) ?_ | refine s_e envOk rfl rfl rfl (step3_pickF rfl rfl (by first | rfl | assumption) rfl) ?_ | fail) | (show OkOps _ _ _ (Oper.mk _ (Op.index _ _ _) _ _ _ (_) :: _) _ _; first | refine s_e envOk rfl rfl rfl (step3_idxStr rfl rfl rfl rfl (by first | omega | ((try simp only [decide_eq_true_eq, decide_eq_false_iff_not, Bool.not_eq_true', Bool.not_true, Bool.not_false, List.length_map, List.length_set, bne_iff_ne, ne_eq, beq_iff_eq, bne_eq_false_iff_eq, beq_eq_false_iff_ne] at *); omega)) (at_get (by first | omega | ((try simp only [decide_eq_true_eq, decide_eq_false_iff_not, Bool.not_eq_true', Bool.not_true, Bool.not_false, List.length_map, List.length_set, bne_iff_ne, ne_eq, beq_iff_eq, bne_eq_false_iff_eq, beq_eq_false_iff_ne] at *); omega)))) ?_ | fail) | (show OkOps _ _ _ (Oper.mk _ (Op.box _ _) _ _ _ (_) :: _) _ _; first | refine s_box 0 rfl rfl rfl rfl rfl rfl ?_ | fail) | fail) | (show OkC _ _ _ _ _; first | refine ok_seq ?_ | refine ok_region ?_ | refine ok_block ?_ | refine ok_skip ?_ | refine ok_ret ?_ | refine ok_exit ?_ | refine ok_condF rfl ?_ | refine ok_cond rfl (fun h => ?_) (fun h => ?_) | refine ok_regionD progOk.mo ?_ | refine s_loop 12 rfl [(1, _)] (subL_cons rfl subL_nil) (fun (p : Nat × Bool) => [(4, .one (.d (.int .i64 (p.1 : Int)))), (3, .one (.d (.bool p.2)))]) (fun (p : Nat × Bool) => p.1 ≤ s.length ∧ p.2 = ((n == 0 && (d == 0 && decide ((s.length : Int) ≤ 16))) && (s.take p.1).all okByte)) (fun (p : Nat × Bool) => s.length - p.1) (0, _) (subL_cons rfl (subL_cons rfl subL_nil)) ?_ (fun p ⟨hk, hp⟩ => ?_) | fail) | (show thenQ _ _ _ _; first | refine then_n ?_ | refine then_r ?_ | refine then_x ?_ | fail) | (show blockQ _ _ _ _; first | refine block_n ?_ | refine block_x rfl ?_ | fail) | (show RetQ _ _ _ _ _ _; first | refine ret_leaf (.inl rfl) rfl rfl ?_ | fail) | (show DRun _ _ _ _ _ _ _ _; first | refine d_nil (by kernel_rfl) ?_ | refine d_e envOk rfl rfl rfl (step3_plain rfl rfl) ?_ | (show DRun _ _ _ _ (Oper.mk _ (_) _ _ _ (some _) :: _) _ _ _; first | refine d_strip rfl rfl (by first | assumption | rfl) ?_ | refine d_out rfl rfl (by first | assumption | rfl) rfl rfl ?_ | refine d_split rfl rfl (fun h => ?_) (fun h => ?_) | fail) | (show DRun _ _ _ _ (Oper.mk _ (Op.pick _ _ _) _ _ _ (_) :: _) _ _ _; first | refine d_e envOk rfl rfl rfl (step3_pickT rfl rfl (by first | rfl | assumption) rfl) ?_ | refine d_e envOk rfl rfl rfl (step3_pickF rfl rfl (by first | rfl | assumption) rfl) ?_ | fail) | (show DRun _ _ _ _ (Oper.mk _ (Op.call _) _ _ _ (_) :: _) _ _ _; first | refine d_l rfl rfl (loc_callF' rfl rfl rfl rfl rfl rfl (c265 _) rfl) ?_ | refine d_callD 16 rfl rfl rfl rfl rfl rfl rfl rfl (c267 _ (by first | omega | ((try simp only [decide_eq_true_eq, decide_eq_false_iff_not, Bool.not_eq_true', Bool.not_true, Bool.not_false, List.length_map, List.length_set, bne_iff_ne, ne_eq, beq_iff_eq, bne_eq_false_iff_eq, beq_eq_false_iff_ne] at *); omega)) (by first | omega | ((try simp only [decide_eq_true_eq, decide_eq_false_iff_not, Bool.not_eq_true', Bool.not_true, Bool.not_false, List.length_map, List.length_set, bne_iff_ne, ne_eq, beq_iff_eq, bne_eq_false_iff_eq, beq_eq_false_iff_ne] at *); omega))) rfl rfl ?_ | refine d_callD 16 rfl rfl rfl rfl rfl rfl rfl rfl (c266 _ _ (by first | omega | ((try simp only [decide_eq_true_eq, decide_eq_false_iff_not, Bool.not_eq_true', Bool.not_true, Bool.not_false, List.length_map, List.length_set, bne_iff_ne, ne_eq, beq_iff_eq, bne_eq_false_iff_eq, beq_eq_false_iff_ne] at *); omega)) (by first | omega | ((try simp only [decide_eq_true_eq, decide_eq_false_iff_not, Bool.not_eq_true', Bool.not_true, Bool.not_false, List.length_map, List.length_set, bne_iff_ne, ne_eq, beq_iff_eq, bne_eq_false_iff_eq, beq_eq_false_iff_ne] at *); omega)) (by first | omega | ((try simp only [decide_eq_true_eq, decide_eq_false_iff_not, Bool.not_eq_true', Bool.not_true, Bool.not_false, List.length_map, List.length_set, bne_iff_ne, ne_eq, beq_iff_eq, bne_eq_false_iff_eq, beq_eq_false_iff_ne] at *); omega)) (by first | omega | ((try simp only [decide_eq_true_eq, decide_eq_false_iff_not, Bool.not_eq_true', Bool.not_true, Bool.not_false, List.length_map, List.length_set, bne_iff_ne, ne_eq, beq_iff_eq, bne_eq_false_iff_eq, beq_eq_false_iff_ne] at *); omega))) rfl rfl ?_ | refine d_callD 16 rfl rfl rfl rfl rfl rfl rfl rfl (c268one) rfl rfl ?_ | fail) | fail) | (show Exists _; first | refine Exists.intro ((p.1 + 1, _)) ⟨?_, ?_, (by first | exact subL_nil | exact (subL_cons rfl subL_nil) | exact (subL_cons rfl (subL_cons rfl subL_nil)) | exact (subL_cons rfl (subL_cons rfl (subL_cons rfl subL_nil))) | exact (subL_cons rfl (subL_cons rfl (subL_cons rfl (subL_cons rfl subL_nil)))) | exact (subL_cons rfl (subL_cons rfl (subL_cons rfl (subL_cons rfl (subL_cons rfl subL_nil))))) | exact (subL_cons rfl (subL_cons rfl (subL_cons rfl (subL_cons rfl (subL_cons rfl (subL_cons rfl subL_nil)))))) | exact (subL_cons rfl (subL_cons rfl (subL_cons rfl (subL_cons rfl (subL_cons rfl (subL_cons rfl (subL_cons rfl subL_nil))))))) | exact (subL_cons rfl (subL_cons rfl (subL_cons rfl (subL_cons rfl (subL_cons rfl (subL_cons rfl (subL_cons rfl (subL_cons rfl subL_nil))))))))), (subL_cons rfl (subL_cons rfl subL_nil)), (subL_cons rfl subL_nil)⟩ | fail) | fail)
  all_goals (try (((simp_all [rightF, plainF, at_take, okByte, at_drop, List.drop_eq_nil_of_le]) <;> first | omega | (rw [Bool.eq_iff_iff]; simp; omega) | grind); done))
  · rename_i a1 a2 a3 a4 a5 a6 a7 a8
    rw [gcd_eq (by simpa using a4), cmp1_iff (by omega)] at h
    simp_all [rightF]
  · rename_i a1 a2 a3 a4 a5 a6 a7 a8
    rw [gcd_eq (by simpa using a4), cmp1_iff (by omega)] at h
    simp_all [rightF]
  · refine ⟨Nat.zero_le _, ?_⟩
    change decide ((s.length : Int) ≤ 16) = _
    simp_all
  · rename_i a1 a2 a3 a4 a5 a6 a7 a8
    have hk' : p.1 < s.length := by simpa using a7
    refine ⟨by show p.1 + 1 ≤ _; omega, ?_⟩
    change decide (((at_ s p.1).toNat : Int) ≤ 126) = (n == 0 && (d == 0 && decide ((s.length : Int) ≤ 16)) && (List.take (p.1 + 1) s).all okByte)
    rw [at_take hk', List.all_append, ← Bool.and_assoc, ← hp, a8]
    have h2 : (32 : Int) ≤ ((at_ s p.1).toNat : Int) := by simpa using h
    have h' : 32 ≤ (at_ s p.1).toNat := by omega
    simp [okByte, h']
    try omega
end Go.Proofs.YtpejdgkaapnekaaGreat
namespace Go.Proofs.YtpejdgkaapnekaaGreat
open Go Go.Abs
attribute [local irreducible] OkOps OkC DRun thenQ blockQ RetQ
set_option maxRecDepth 10000
end Go.Proofs.YtpejdgkaapnekaaGreat
namespace Go.Proofs.YtpejdgkaapnekaaGreat
open Go Go.Abs
attribute [local irreducible] OkOps OkC DRun thenQ blockQ RetQ
set_option maxRecDepth 10000
def arity (op : Int) : Int := if 4 ≤ op ∧ op ≤ 8 then 1 else if 9 ≤ op ∧ op ≤ 21 then 2 else if op = 22 then 3 else 0
def zeroV (v : Val) : Bool := v.kind == 0 && (v.num == 0 && (v.den == 0 && v.str == []))
theorem zeroV_eq {v : Val} : eqDs [.int .i64 v.kind, .int .i64 v.num, .int .i64 v.den, .str v.str] [.int .i64 0, .int .i64 0, .int .i64 0, .str []] = zeroV v := by
  simp [eqDs, eqD, zeroV]
def partF (s : Scalar) : Bool :=
  if s.op = 1 then rightF s.val.kind s.val.num s.val.den s.val.str && (!(s.val.kind == 0) && (s.name == [] && (s.args.length : Int) == 0))
  else if s.op = 2 ∨ s.op = 3 then zeroV s.val && (s.args.length : Int) == 0
  else decide (0 < arity s.op) && (zeroV s.val && (s.name == [] && (s.args.length : Int) == arity s.op))
theorem c177 (s : Scalar) : CallA Tryz.prog 177 [aggS s] [] (.one (.d (.bool (partF s)))) [] := by
  refine enter tabOk Tryz.func177 rfl (by decide +kernel) rfl fun hok w0 σ0 φ0 M => ?_
  clear hok
  repeat' (first | (show OkOps _ _ _ _ _ _; first | refine okops_nil ?_ | refine s_plain tabOk rfl rfl rfl rfl rfl ?_ | (show OkOps _ _ _ (Oper.mk _ (_) _ _ _ (some _) :: _) _ _; first | refine s_guard rfl rfl (by first | assumption | rfl) ?_ | refine s_out rfl rfl (by first | assumption | rfl) rfl rfl ?_ | refine s_split rfl rfl rfl rfl (fun h => ?_) (fun h => ?_) | fail) | (show OkOps _ _ _ (Oper.mk _ (Op.pick _ _ _) _ _ _ (_) :: _) _ _; first | refine s_e envOk rfl rfl rfl (step3_pickT rfl rfl (by first | rfl | assumption) rfl) ?_ | refine s_e envOk rfl rfl rfl (step3_pickF rfl rfl (by first | rfl | assumption) rfl) ?_ | fail) | (show OkOps _ _ _ (Oper.mk _ (Op.call _) _ _ _ (_) :: _) _ _; first | refine s_callF rfl rfl rfl rfl rfl rfl rfl rfl (c227 _ _ _ _) rfl ?_ | fail) | (show OkOps _ _ _ (Oper.mk _ (Op.box _ _) _ _ _ (_) :: _) _ _; first | refine s_box 0 rfl rfl rfl rfl rfl rfl ?_ | fail) | (show OkOps _ _ _ (Oper.mk _ (Op.alloc _) _ _ _ (_) :: _) _ _; first | refine s_alloc tabOk 1 rfl rfl rfl rfl rfl ?_ | fail) | refine s_store envOk rfl rfl rfl ?_ | refine s_e envOk rfl rfl rfl rfl ?_ | fail) | (show OkC _ _ _ _ _; first | refine ok_seq ?_ | refine ok_region ?_ | refine ok_block ?_ | refine ok_skip ?_ | refine ok_ret ?_ | refine ok_condT rfl ?_ | refine ok_condF rfl ?_ | refine ok_cond rfl (fun h => ?_) (fun h => ?_) | fail) | (show thenQ _ _ _ _; first | refine then_n ?_ | refine then_r ?_ | fail) | (show blockQ _ _ _ _; first | refine block_n ?_ | refine block_r ?_ | fail) | (show RetQ _ _ _ _ _ _; first | refine ret_leaf (.inl rfl) rfl rfl ?_ | fail) | fail)
  all_goals (try rw [zeroV_eq] at *)
  all_goals (try (((simp_all [partF, arity, zeroV_eq, at_drop, List.drop_eq_nil_of_le]) <;> first | omega | (rw [Bool.eq_iff_iff]; simp; omega) | grind); done))
end Go.Proofs.YtpejdgkaapnekaaGreat
namespace Go.Proofs.YtpejdgkaapnekaaGreat
open Go Go.Abs
attribute [local irreducible] OkOps OkC DRun thenQ blockQ RetQ
set_option maxRecDepth 10000
mutual
def partsF : Scalar → Bool
  | .mk o n v a => partF (.mk o n v a) && partsL a
def partsL : List Scalar → Bool
  | [] => true
  | x :: r => partsF x && partsL r
end
theorem partsF_eq : ∀ {s : Scalar}, partsF s = (partF s && partsL s.args)
  | .mk _ _ _ _ => by simp [partsF, Scalar.args]
theorem c92 (s : Scalar) : CallA Tryz.prog 92 [aggS s] [] (.one (.d (.bool (partsF s)))) [] := by
  induction s using Scalar.ind with
  | h s ih =>
    refine enter tabOk Tryz.func92 rfl (by decide +kernel) rfl fun hok w0 σ0 φ0 M => ?_
    have h1 := (OkD.sl (hok.1 (.d (encScalars s.args)) (by simp))).1; clear hok; simp only [List.length_map] at h1
    repeat' (first | (show OkOps _ _ _ _ _ _; first | refine okops_nil ?_ | refine s_plain tabOk rfl rfl rfl rfl rfl ?_ | (show OkOps _ _ _ (Oper.mk _ (Op.binOp .add _ _ _ _) _ _ _ (_) :: _) _ _; first | refine s_e envOk rfl rfl rfl (step3_add rfl rfl rfl rfl (wrap64 (by omega) (by omega))) ?_ | fail) | (show OkOps _ _ _ (Oper.mk _ (Op.indexAddr _ _ _) _ _ _ (_) :: _) _ _; first | refine s_e envOk rfl rfl rfl (step3_idx rfl rfl rfl rfl rfl (by first | omega | ((try simp only [decide_eq_true_eq, decide_eq_false_iff_not, Bool.not_eq_true', Bool.not_true, Bool.not_false, List.length_map, List.length_set, bne_iff_ne, ne_eq, beq_iff_eq, bne_eq_false_iff_eq, beq_eq_false_iff_ne] at *); omega)) (at_mapS (by first | omega | ((try simp only [decide_eq_true_eq, decide_eq_false_iff_not, Bool.not_eq_true', Bool.not_true, Bool.not_false, List.length_map, List.length_set, bne_iff_ne, ne_eq, beq_iff_eq, bne_eq_false_iff_eq, beq_eq_false_iff_ne] at *); omega)))) ?_ | fail) | (show OkOps _ _ _ (Oper.mk _ (Op.call _) _ _ _ (_) :: _) _ _; first | refine s_callF rfl rfl rfl rfl rfl rfl rfl rfl (c177 _) rfl ?_ | refine s_callF rfl rfl rfl rfl rfl rfl rfl rfl (ih _ (at_mem (by first | omega | ((try simp only [decide_eq_true_eq, decide_eq_false_iff_not, Bool.not_eq_true', Bool.not_true, Bool.not_false, List.length_map, List.length_set, bne_iff_ne, ne_eq, beq_iff_eq, bne_eq_false_iff_eq, beq_eq_false_iff_ne] at *); omega)))) rfl ?_ | fail) | (show OkOps _ _ _ (Oper.mk _ (Op.box _ _) _ _ _ (_) :: _) _ _; first | refine s_box 0 rfl rfl rfl rfl rfl rfl ?_ | fail) | fail) | (show OkC _ _ _ _ _; first | refine ok_seq ?_ | refine ok_region ?_ | refine ok_block ?_ | refine ok_skip ?_ | refine ok_ret ?_ | refine ok_exit ?_ | refine ok_cond rfl (fun h => ?_) (fun h => ?_) | refine s_loop 4 rfl [(1, _)] (subL_cons rfl subL_nil) (fun (k : Nat) => [(3, .one (.d (.int .i64 k)))]) (fun (k : Nat) => k ≤ s.args.length ∧ partF s = true ∧ partsL s.args = partsL (s.args.drop k)) (fun (k : Nat) => s.args.length - k) 0 (subL_cons rfl subL_nil) ?_ (fun k ⟨hk, hp, hs⟩ => ?_) | fail) | (show thenQ _ _ _ _; first | refine then_n ?_ | refine then_r ?_ | refine then_x ?_ | fail) | (show blockQ _ _ _ _; first | refine block_n ?_ | refine block_r ?_ | refine block_x rfl ?_ | fail) | (show RetQ _ _ _ _ _ _; first | refine ret_leaf (.inl rfl) rfl rfl ?_ | fail) | (show Exists _; first | refine Exists.intro (k + 1) ⟨?_, ?_, (by first | exact subL_nil | exact (subL_cons rfl subL_nil) | exact (subL_cons rfl (subL_cons rfl subL_nil)) | exact (subL_cons rfl (subL_cons rfl (subL_cons rfl subL_nil))) | exact (subL_cons rfl (subL_cons rfl (subL_cons rfl (subL_cons rfl subL_nil)))) | exact (subL_cons rfl (subL_cons rfl (subL_cons rfl (subL_cons rfl (subL_cons rfl subL_nil))))) | exact (subL_cons rfl (subL_cons rfl (subL_cons rfl (subL_cons rfl (subL_cons rfl (subL_cons rfl subL_nil)))))) | exact (subL_cons rfl (subL_cons rfl (subL_cons rfl (subL_cons rfl (subL_cons rfl (subL_cons rfl (subL_cons rfl subL_nil))))))) | exact (subL_cons rfl (subL_cons rfl (subL_cons rfl (subL_cons rfl (subL_cons rfl (subL_cons rfl (subL_cons rfl (subL_cons rfl subL_nil))))))))), (subL_cons rfl subL_nil), (subL_cons rfl subL_nil)⟩ | fail) | fail)
    all_goals (try (((simp_all [partsF_eq, partsL, at_drop, List.drop_eq_nil_of_le]) <;> first | omega | (rw [Bool.eq_iff_iff]; simp; omega) | grind); done))
    all_goals trace_state
end Go.Proofs.YtpejdgkaapnekaaGreat
namespace Go.Proofs.YtpejdgkaapnekaaGreat
open Go Go.Abs
theorem fold_any {f : Scalar → Int} {c : Int} : ∀ (l : List Scalar) (d : Int), c < l.foldl (fun d x => max d (f x)) d ↔ (c < d ∨ ∃ x ∈ l, c < f x)
  | [], d => by simp
  | x :: r, d => by
    have ih := fold_any (f := f) (c := c) r (max d (f x))
    have hm : c < max d (f x) ↔ c < d ∨ c < f x := by omega
    simp only [List.foldl_cons, List.mem_cons]
    rw [ih, hm]
    refine ⟨fun h => ?_, fun h => ?_⟩
    · rcases h with (h | h) | ⟨y, hy, h⟩
      · exact .inl h
      · exact .inr ⟨x, .inl rfl, h⟩
      · exact .inr ⟨y, .inr hy, h⟩
    · rcases h with h | ⟨y, rfl | hy, h⟩
      · exact .inl (.inl h)
      · exact .inl (.inr h)
      · exact .inr ⟨y, hy, h⟩
theorem deep_depth : ∀ (m : Nat) (s : Scalar), deepF m s = true ↔ (m : Int) < depthF m s
  | 0, s => by simp [deepF, depthF]
  | m + 1, s => by
    have h := fold_any (f := depthF m) (c := m) s.args 0
    simp only [deepF, depthF, List.any_eq_true]
    have e : (∃ x, x ∈ s.args ∧ deepF m x = true) ↔ ∃ x, x ∈ s.args ∧ (m : Int) < depthF m x := ⟨fun ⟨x, h1, h2⟩ => ⟨x, h1, (deep_depth m x).1 h2⟩, fun ⟨x, h1, h2⟩ => ⟨x, h1, (deep_depth m x).2 h2⟩⟩
    rw [e]
    refine ⟨fun h2 => ?_, fun h2 => ?_⟩
    · have := h.2 (.inr h2); omega
    · rcases h.1 (by omega) with h3 | h3
      · omega
      · exact h3
mutual
def postL : Scalar → List Scalar
  | .mk o n v a => postLs a ++ [.mk o n v a]
def postLs : List Scalar → List Scalar
  | [] => []
  | x :: r => postL x ++ postLs r
end
theorem postL_eq : ∀ {s : Scalar}, postL s = postLs s.args ++ [s]
  | .mk _ _ _ _ => by simp [postL, Scalar.args]
theorem countLs_over {most : Int} : ∀ {l : List Scalar} {n : Int}, most < n → countLs l n most = n
  | [], n, h => by simp [countLs]
  | x :: r, n, h => by simp only [countLs]; rw [if_neg (by omega)]
theorem countLs_post {most : Int} : ∀ (l : List Scalar), (∀ x ∈ l, ∀ m, 0 ≤ m → (((postL x).length : Int) ≤ m → countF x m = (postL x).length) ∧ (m < ((postL x).length : Int) → m < countF x m)) → ∀ n, 1 ≤ n → n ≤ most + 1 →
    (n + (postLs l).length ≤ most → countLs l n most = n + (postLs l).length) ∧ (most < n + (postLs l).length → most < countLs l n most)
  | [], _, n, h1, h2 => by simp [countLs, postLs]
  | x :: r, h, n, h1, h2 => by
    simp only [countLs, postLs, List.length_append]
    split
    · rename_i hle
      obtain ⟨ha, hb⟩ := h x (by simp) (most - n) (by omega)
      have hr := countF_range x (most - n) (by omega)
      have ih := countLs_post (most := most) r (fun y hy => h y (by simp [hy])) (n + countF x (most - n)) (by omega) (by omega)
      by_cases hc : ((postL x).length : Int) ≤ most - n
      · rw [ha hc] at ih ⊢
        refine ⟨fun h3 => ?_, fun h3 => ?_⟩
        · rw [ih.1 (by omega)]; omega
        · exact ih.2 (by omega)
      · have hb' := hb (by omega)
        refine ⟨fun h3 => by omega, fun h3 => ?_⟩
        rw [countLs_over (by omega)]; omega
    · exact ⟨fun h3 => by omega, fun h3 => by omega⟩
theorem countF_post (s : Scalar) : ∀ m : Int, 0 ≤ m → (((postL s).length : Int) ≤ m → countF s m = (postL s).length) ∧ (m < ((postL s).length : Int) → m < countF s m) := by
  induction s using Scalar.ind with
  | h s ih =>
    intro m hm
    have := countLs_post (most := m) s.args ih 1 (by omega) (by omega)
    rw [countF_eq, postL_eq]
    simp only [List.length_append, List.length_cons, List.length_nil]
    refine ⟨fun h => ?_, fun h => this.2 (by omega)⟩
    rw [this.1 (by omega)]; omega
theorem count_many (s : Scalar) : 64 < countF s 64 ↔ 64 < ((postL s).length : Int) := by
  have h := countF_post s 64 (by omega)
  refine ⟨fun h1 => ?_, h.2⟩
  by_cases hc : ((postL s).length : Int) ≤ 64
  · rw [h.1 hc] at h1; exact h1
  · omega
theorem partsL_all : ∀ (l : List Scalar), (∀ x ∈ l, partsF x = (postL x).all partF) → partsL l = (postLs l).all partF
  | [], _ => by simp [partsL, postLs]
  | x :: r, h => by
    simp only [partsL, postLs, List.all_append, h x (by simp), partsL_all r fun y hy => h y (by simp [hy])]
theorem parts_all (s : Scalar) : partsF s = (postL s).all partF := by
  induction s using Scalar.ind with
  | h s ih =>
    rw [partsF_eq, postL_eq, partsL_all s.args ih]
    simp [Bool.and_comm]
def formGo : List Scalar → Int → Bool → Int
  | [], _, r => if r then 0 else 2
  | x :: l, n, r => if 64 < n + 1 then 9 else formGo l (n + 1) (r && partF x)
theorem formGo_eq : ∀ (l : List Scalar) (n : Int) (r : Bool), n ≤ 64 → (64 < n + (l.length : Int) → formGo l n r = 9) ∧ (¬ 64 < n + (l.length : Int) → formGo l n r = if r && l.all partF then 0 else 2)
  | [], n, r, hn => by
    simp only [formGo, List.length_nil, List.all_nil, Bool.and_true]
    exact ⟨fun h => absurd h (by omega), fun _ => trivial⟩
  | x :: l, n, r, hn => by
    simp only [formGo, List.length_cons, List.all_cons]
    by_cases h : 64 < n + 1
    · rw [if_pos h]
      exact ⟨fun _ => rfl, fun h2 => absurd h2 (by omega)⟩
    · rw [if_neg h]
      have ih := formGo_eq l (n + 1) (r && partF x) (by omega)
      rw [Bool.and_assoc] at ih
      exact ⟨fun h2 => ih.1 (by omega), fun h2 => ih.2 (by omega)⟩
def formF (s : Scalar) : Int := if deepF 12 s then 10 else formGo (postL s) 0 true
theorem formF_ref (s : Scalar) : formF s = if 12 < depthF 12 s then 10 else if 64 < countF s 64 then 9 else if partsF s then 0 else 2 := by
  have h1 := deep_depth 12 s
  have h2 := count_many s
  have h3 := formGo_eq (postL s) 0 true (by omega)
  unfold formF
  rw [parts_all]
  by_cases hd : deepF 12 s = true
  · have hd' : 12 < depthF 12 s := h1.1 hd
    rw [if_pos hd, if_pos hd']
  · have hd' : ¬ 12 < depthF 12 s := fun h => hd (h1.2 h)
    rw [if_neg hd, if_neg hd']
    by_cases hc : 64 < countF s 64
    · rw [if_pos hc]; have := h2.1 hc; exact h3.1 (by omega)
    · rw [if_neg hc]
      have hn : ¬ 64 < ((postL s).length : Int) := fun h => hc (h2.2 h)
      rw [h3.2 (by omega), Bool.true_and]
end Go.Proofs.YtpejdgkaapnekaaGreat
namespace Go.Proofs.YtpejdgkaapnekaaGreat
open Go Go.Abs
attribute [local irreducible] OkOps OkC DRun thenQ blockQ RetQ
set_option maxRecDepth 10000
def runF {α β : Type} (F : α → β → Bool × α) : List β → α → Bool × α
  | [], a => (true, a)
  | x :: l, a => if (F a x).1 then runF F l (F a x).2 else (false, (F a x).2)
def OkRun {α β : Type} (F : α → β → Bool × α) (ok : α → β → Prop) : List β → α → Prop
  | [], _ => True
  | x :: l, a => ok a x ∧ ((F a x).1 = true → OkRun F ok l (F a x).2)
theorem runF_app {α β : Type} {F : α → β → Bool × α} : ∀ {l m : List β} {a : α}, runF F (l ++ m) a = if (runF F l a).1 then runF F m (runF F l a).2 else runF F l a
  | [], _, _ => by simp [runF]
  | x :: l, m, a => by
    simp only [List.cons_append, runF]
    split
    · exact runF_app
    · simp
theorem okRun_app {α β : Type} {F : α → β → Bool × α} {ok : α → β → Prop} : ∀ {l m : List β} {a : α}, OkRun F ok (l ++ m) a → OkRun F ok l a ∧ ((runF F l a).1 = true → OkRun F ok m (runF F l a).2)
  | [], _, _, h => ⟨trivial, fun _ => h⟩
  | x :: l, m, a, h => by
    simp only [List.cons_append, OkRun] at h
    simp only [OkRun, runF]
    refine ⟨⟨h.1, fun h1 => (okRun_app (h.2 h1)).1⟩, fun h1 => ?_⟩
    by_cases hx : (F a x).1 = true
    · rw [if_pos hx] at h1 ⊢; exact (okRun_app (h.2 hx)).2 h1
    · rw [if_neg hx] at h1; simp at h1
theorem postLs_snoc : ∀ {l : List Scalar} {x : Scalar}, postLs (l ++ [x]) = postLs l ++ postL x
  | [], x => by simp [postLs]
  | y :: r, x => by simp [postLs, postLs_snoc, List.append_assoc]
theorem postLs_take {l : List Scalar} {k : Nat} (h : k < l.length) : postLs (l.take (k + 1)) = postLs (l.take k) ++ postL (at_ l k) := by
  rw [at_take h, postLs_snoc]
theorem postLs_drop {l : List Scalar} {k : Nat} (h : k < l.length) : postLs (l.drop k) = postL (at_ l k) ++ postLs (l.drop (k + 1)) := by
  rw [at_drop h]; rfl
theorem runF_post {α : Type} {F : α → Scalar → Bool × α} {l : List Scalar} {k : Nat} (h : k ≤ l.length) {m : List Scalar} {a0 a : α} (hr : runF F (postLs (l.take k)) a0 = (true, a)) : runF F (postLs l ++ m) a0 = runF F (postLs (l.drop k) ++ m) a := by
  have e : postLs l = postLs (l.take k) ++ postLs (l.drop k) := by
    have h2 : ∀ (x y : List Scalar), postLs (x ++ y) = postLs x ++ postLs y := by
      intro x
      induction x with
      | nil => intro y; simp [postLs]
      | cons c r ih => intro y; simp [postLs, ih, List.append_assoc]
    rw [← h2, List.take_append_drop]
  rw [e, List.append_assoc, runF_app, hr]
  simp
theorem c217 {α : Type} (E : α → Sto) (hE : FamW E) (F : α → Scalar → Bool × α) (ok : α → Scalar → Prop)
    (hY : ∀ a x, ok a x → YieldA Tryz.prog 1000000 [aggS x] (E a) (.one (.d (.bool (F a x).1))) (E (F a x).2)) (s : Scalar) :
    ∀ a0, OkRun F ok (postL s) a0 → CallA Tryz.prog 217 [aggS s, .one (.yl 1000000)] (E a0) (.one (.d (.bool (runF F (postL s) a0).1))) (E (runF F (postL s) a0).2) := by
  induction s using Scalar.ind with
  | h s ih =>
    intro a0 hok0
    rw [postL_eq] at hok0 ⊢
    obtain ⟨hok1, hok2⟩ := okRun_app hok0
    refine enter tabOk Tryz.func217 rfl (by decide +kernel) rfl fun hok w0 σ0 φ0 M => ?_
    have h1 := (OkD.sl (hok.1 (.d (encScalars s.args)) (by simp))).1; clear hok; simp only [List.length_map] at h1
    repeat' (first | (show OkOps _ _ _ _ _ _; first | (show OkOps _ _ _ (Oper.mk _ (Op.box _ _) _ _ _ (_) :: _) _ _; first | refine s_boxW [] 0 (hE.big _) (hE.ins _) rfl rfl rfl rfl rfl rfl rfl rfl ?_ | fail) | refine okops_nil ?_ | refine s_plain tabOk rfl rfl rfl rfl rfl ?_ | fail) | (show OkC _ _ _ _ _; first | refine ok_seq ?_ | refine ok_region ?_ | refine ok_block ?_ | fail) | (show thenQ _ _ _ _; first | refine then_n ?_ | fail) | fail)
    refine s_loopW hE (fun (p : Nat × α) => p.2) [(0, _)] [(1, _), (2, _), (8, _), (9, _)] (subL_cons rfl (subL_cons rfl (subL_cons rfl (subL_cons rfl subL_nil)))) (fun (p : Nat × α) => [(10, .one (.d (.int .i64 (p.1 : Int))))])
      (fun p => p.1 ≤ s.args.length ∧ runF F (postLs (s.args.take p.1)) a0 = (true, p.2) ∧ OkRun F ok (postLs (s.args.drop p.1)) p.2) (fun p => s.args.length - p.1) (0, a0) rfl rfl (subL_cons rfl subL_nil) ?_ (fun p ⟨hk, hr, ho⟩ => ?_)
    · exact ⟨Nat.zero_le _, rfl, hok1⟩
    · repeat' (first | (show OkOps _ _ _ _ _ _; first | (show OkOps _ _ _ (Oper.mk _ (Op.alloc _) _ _ _ (_) :: _) _ _; first | refine s_allocW tabOk [(0, _)] 1 (hE.big _) (hE.ins _) rfl rfl rfl rfl rfl rfl rfl ?_ | fail) | refine okops_nil ?_ | refine s_plain tabOk rfl rfl rfl rfl rfl ?_ | (show OkOps _ _ _ (Oper.mk _ (Op.indexAddr _ _ _) _ _ _ (_) :: _) _ _; first | refine s_e envOk rfl rfl rfl (step3_idx rfl rfl rfl rfl rfl (by first | omega | ((try simp only [decide_eq_true_eq, decide_eq_false_iff_not, Bool.not_eq_true', Bool.not_true, Bool.not_false, List.length_map, List.length_set, bne_iff_ne, ne_eq, beq_iff_eq, bne_eq_false_iff_eq, beq_eq_false_iff_ne] at *); omega)) (at_mapS (by first | omega | ((try simp only [decide_eq_true_eq, decide_eq_false_iff_not, Bool.not_eq_true', Bool.not_true, Bool.not_false, List.length_map, List.length_set, bne_iff_ne, ne_eq, beq_iff_eq, bne_eq_false_iff_eq, beq_eq_false_iff_ne] at *); omega)))) ?_ | fail) | refine s_store envOk rfl rfl rfl ?_ | fail) | (show OkC _ _ _ _ _; first | refine ok_seq ?_ | refine ok_region ?_ | refine ok_block ?_ | refine ok_skip ?_ | refine ok_exit ?_ | refine ok_cond rfl (fun h => ?_) (fun h => ?_) | fail) | (show thenQ _ _ _ _; first | refine then_n ?_ | refine then_x ?_ | fail) | (show blockQ _ _ _ _; first | refine block_x rfl ?_ | fail) | fail)
      · have hk' : p.1 < s.args.length := by simpa using h
        rw [postLs_drop hk'] at ho
        obtain ⟨ho1, ho2⟩ := okRun_app ho
        have hrun : runF F (postLs s.args ++ [s]) a0 = if (runF F (postL (at_ s.args p.1)) p.2).1 then runF F (postLs (s.args.drop (p.1 + 1)) ++ [s]) (runF F (postL (at_ s.args p.1)) p.2).2 else runF F (postL (at_ s.args p.1)) p.2 := by
          rw [runF_post (F := F) hk (m := [s]) hr, postLs_drop hk', List.append_assoc]; exact runF_app
        refine s_callW [(1, _), (0, _)] (ih (at_ s.args p.1) (at_mem hk') p.2 ho1) (hE.big _) (hE.big _) (hE.ins _) (hE.ins _) (hE.lp _) (hE.lp _) rfl rfl rfl rfl rfl rfl rfl (by simp [avsIn, avIn, aggS, acsIn, acIn, yl_in (hE.lp _)]) rfl rfl ?_
        repeat' (first | (show OkOps _ _ _ _ _ _; first | refine okops_nil ?_ | refine s_plain tabOk rfl rfl rfl rfl rfl ?_ | (show OkOps _ _ _ (Oper.mk _ (Op.binOp .add _ _ _ _) _ _ _ (_) :: _) _ _; first | refine s_e envOk rfl rfl rfl (step3_add rfl rfl rfl rfl (wrap64 (by omega) (by omega))) ?_ | fail) | fail) | (show OkC _ _ _ _ _; first | refine ok_seq ?_ | refine ok_region ?_ | refine ok_skip ?_ | refine ok_ret ?_ | refine ok_cond rfl (fun h => ?_) (fun h => ?_) | fail) | (show thenQ _ _ _ _; first | refine then_n ?_ | refine then_r ?_ | fail) | (show blockQ _ _ _ _; first | refine block_n ?_ | refine block_r ?_ | fail) | fail)
        · have hb' : ¬ (runF F (postL (at_ s.args p.1)) p.2).1 = true := by simpa using h
          rw [if_neg hb'] at hrun
          refine ret_leafW [(1, _), (0, _)] (.inl rfl) rfl rfl rfl ?_ rfl (hE.big _) (hE.nd _)
          rw [hrun]
          refine ⟨?_, rfl⟩
          simp at hb'
          rw [hb']
        · have hb' : (runF F (postL (at_ s.args p.1)) p.2).1 = true := by simpa using h
          refine ⟨(p.1 + 1, (runF F (postL (at_ s.args p.1)) p.2).2), [(1, _), (0, _)], ⟨by show p.1 + 1 ≤ _; omega, ?_, ho2 hb'⟩, by show s.args.length - (p.1 + 1) < s.args.length - p.1; omega, rfl, rfl, subL_cons rfl subL_nil, subL_cons rfl subL_nil, subL_cons rfl (subL_cons rfl (subL_cons rfl (subL_cons rfl subL_nil)))⟩
          show runF F (postLs (s.args.take (p.1 + 1))) a0 = _
          rw [postLs_take hk', runF_app, hr]
          simp only [if_true]
          rw [← hb']
      · have hk' : p.1 = s.args.length := by
          have : ¬ p.1 < s.args.length := by simpa using h
          omega
        rw [hk', List.take_length] at hr
        rw [hr] at hok2
        have hf : runF F (postLs s.args ++ [s]) a0 = F p.2 s := by
          rw [runF_app, hr]
          simp only [if_true, runF]
          split
          · rename_i hb; rw [← hb]
          · rename_i hb; simp at hb; rw [← hb]
        refine s_yieldW [(0, _)] (hY p.2 s (hok2 rfl).1) (hE.big _) (hE.big _) (hE.ins _) (hE.ins _) (hE.lp _) (hE.lp _) rfl rfl rfl rfl rfl rfl rfl rfl (by simp [avsIn, avIn, aggS, acsIn, acIn]) rfl rfl ?_
        repeat' (first | (show OkOps _ _ _ _ _ _; first | refine okops_nil ?_ | refine s_plain tabOk rfl rfl rfl rfl rfl ?_ | fail) | (show OkC _ _ _ _ _; first | refine ok_ret ?_ | fail) | (show thenQ _ _ _ _; first | refine then_n ?_ | fail) | fail)
        refine ret_leafW [(0, _)] (.inl rfl) rfl rfl rfl ?_ rfl (hE.big _) (hE.nd _)
        rw [hf]
        exact ⟨rfl, rfl⟩
theorem c216 {α : Type} (E : α → Sto) (hE : FamW E) (F : α → Scalar → Bool × α) (ok : α → Scalar → Prop)
    (hY : ∀ a x, ok a x → YieldA Tryz.prog 1000000 [aggS x] (E a) (.one (.d (.bool (F a x).1))) (E (F a x).2)) (s : Scalar) (a0 : α) (h0 : OkRun F ok (postL s) a0) :
    CallA Tryz.prog 216 [.one (.yl 1000000), .one (.d (.ptr (rowS s)))] (E a0) (.tup []) (E (runF F (postL s) a0).2) := by
  refine enter tabOk Tryz.func216 rfl (by decide +kernel) rfl fun hok w0 σ0 φ0 M => ?_
  clear hok
  repeat' (first | (show OkOps _ _ _ _ _ _; first | refine s_plain tabOk rfl rfl rfl rfl rfl ?_ | fail) | (show OkC _ _ _ _ _; first | refine ok_region ?_ | fail) | fail)
  refine s_callW [] (c217 E hE F ok hY s a0 h0) (hE.big _) (hE.big _) (hE.ins _) (hE.ins _) (hE.lp _) (hE.lp _) rfl rfl rfl rfl rfl rfl rfl (by simp [avsIn, avIn, aggS, acsIn, acIn, yl_in (hE.lp _)]) rfl rfl ?_
  repeat' (first | (show OkOps _ _ _ _ _ _; first | refine okops_nil ?_ | fail) | fail)
  exact ret_leafW [] (.inr rfl) rfl rfl rfl ⟨rfl, rfl⟩ rfl (hE.big _) (hE.nd _)
theorem c162 (s : Scalar) : CallA Tryz.prog 162 [aggS s] [] (.one (.d (.fn 216 [.ptr (rowS s)]))) [] := by
  refine enter tabOk Tryz.func162 rfl (by decide +kernel) rfl fun hok w0 σ0 φ0 M => ?_
  clear hok
  repeat' (first | (show OkOps _ _ _ _ _ _; first | refine okops_nil ?_ | refine s_plain tabOk rfl rfl rfl rfl rfl ?_ | (show OkOps _ _ _ (Oper.mk _ (Op.box _ _) _ _ _ (_) :: _) _ _; first | refine s_box 0 rfl rfl rfl rfl rfl rfl ?_ | fail) | refine s_mkF envOk rfl rfl rfl rfl rfl ?_ | fail) | (show OkC _ _ _ _ _; first | refine ok_seq ?_ | refine ok_region ?_ | refine ok_ret ?_ | fail) | (show thenQ _ _ _ _; first | refine then_n ?_ | fail) | (show RetQ _ _ _ _ _ _; first | refine ret_leaf (.inl rfl) rfl rfl ?_ | fail) | fail)
  all_goals first | rfl | trace_state
end Go.Proofs.YtpejdgkaapnekaaGreat
namespace Go.Proofs.YtpejdgkaapnekaaGreat
open Go Go.Abs
attribute [local irreducible] OkOps OkC DRun thenQ blockQ RetQ
set_option maxRecDepth 10000
def numF (t : Int) : Bool := t == 2 || t == 3
def sharedF (a b : Int) : Int := if a = b then a else if numF a && numF b then 3 else 0
end Go.Proofs.YtpejdgkaapnekaaGreat
namespace Go.Proofs.YtpejdgkaapnekaaGreat
open Go Go.Abs
attribute [local irreducible] OkOps OkC DRun thenQ blockQ RetQ
set_option maxRecDepth 10000
def typedF (op : Int) (a b c : Int) : Int :=
  if (op = 4 ∧ a = 1) ∨ op = 7 then 1
  else if op = 5 ∧ numF a = true then a
  else if (op = 6 ∧ numF a = true) ∨ op = 8 then 2
  else if 9 ≤ op ∧ op ≤ 11 ∧ numF a = true ∧ numF b = true then sharedF a b
  else if op = 12 ∧ numF a = true ∧ numF b = true then 3
  else if 13 ≤ op ∧ op ≤ 18 ∧ sharedF a b ≠ 0 then 1
  else if (op = 19 ∨ op = 20) ∧ a = 1 ∧ b = 1 then 1
  else if op = 21 then sharedF a b
  else if op = 22 ∧ a = 1 then sharedF b c
  else 0
end Go.Proofs.YtpejdgkaapnekaaGreat
namespace Go.Proofs.YtpejdgkaapnekaaGreat
open Go Go.Abs
attribute [local irreducible] OkOps OkC DRun thenQ blockQ RetQ
set_option maxRecDepth 10000
end Go.Proofs.YtpejdgkaapnekaaGreat
