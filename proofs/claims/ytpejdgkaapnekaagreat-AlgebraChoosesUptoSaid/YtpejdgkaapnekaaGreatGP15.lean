import Derived.LoopNIn
import Derived.Test.YtpejdgkaapnekaaGreatGP14
set_option linter.unusedVariables false
set_option linter.unusedSimpArgs false
set_option linter.unnecessarySimpa false
set_option maxHeartbeats 1000000
namespace Go.Proofs.YtpejdgkaapnekaaGreat
open Go Go.Abs
attribute [local irreducible] ac OkC ao ax ap aJ
set_option maxRecDepth 10000
theorem MQ(ds : List Dim)(at' : List Int) : CallA Tryz.prog 204 [.one (.d (aH ds)),.one (.d (aL at'))] [] (.one (.d (.bool (ofF ds at')))) []:=by
 refine enter ae Tryz.func204 rfl (by decide +kernel) rfl fun hok w0 σ0 φ0 M=>?_
 have h1:=hok.1.sl; have h2:=hok.2.1.sl; clear hok; simp only [List.length_map] at h1 h2; replace h1:=h1.1; replace h2:=h2.1
 repeat' (first|(refine h1H ?_; (refine h0H ?_; refine aa J J J J J J J J (Nu _ _ _) J ?_))|refine wG ?_|(refine h1H ?_; (refine h5H ?_; refine aG J J J J (fun h=>?_) (fun h=>?_)))|(refine h4H ?_; first|refine ag J (fun h=>?_) (fun h=>?_)|refine aB 4 J [(0,_),(12,_),(13,_)] (q3Q J J J) (fun (k : Nat)=>[(14,.one (.d (.int .i64 k)))]) (fun (k : Nat)=>k≤ds.length∧at'.length = ds.length∧bo ds at' = bo (ds.drop k) (at'.drop k)) (fun (k : Nat)=>ds.length - k) 0 (q1Q J) ?_ (fun k ⟨hk,hq,hs⟩=>?_))|(show Exists _; refine Exists.intro (k + 1) ⟨?_,?_,wK,(q1Q J),(q3Q J J J)⟩))
 all_goals (try (((simp_all [ofF,bo,am,List.drop_eq_nil_of_le]) <;> exact wL); done))
def bc : List Int→List Int→Int
 | [],[]=>0
 | [],_::_=>-1
 | _::_,[]=>1
 | x::xs,y::ys=>if x < y then -1 else if y < x then 1 else bc xs ys
theorem xV{b : List Int} : bc [] b = if b = [] then 0 else -1:=by cases b <;> simp [bc]
theorem vQ{a : List Int} : bc a [] = if a = [] then 0 else 1:=by cases a <;> simp [bc]
theorem I8(a b : List Int) : CallA Tryz.prog 176 [.one (.d (aL a)),.one (.d (aL b))] [] (.one (.d (.int .i64 (bc a b)))) []:=by
 refine enter ae Tryz.func176 rfl (by decide +kernel) rfl fun hok w0 σ0 φ0 M=>?_
 have h1:=hok.1.sl; have h2:=hok.2.1.sl; clear hok; simp only [List.length_map] at h1 h2; replace h1:=h1.1; replace h2:=h2.1
 repeat' (first|refine wG ?_|(refine h1H ?_; (refine h5H ?_; refine aG J J J J (fun h=>?_) (fun h=>?_)))|(refine h4H ?_; first|refine ag J (fun h=>?_) (fun h=>?_)|refine aB 2 J [(0,_),(1,_)] (q2Q J J) (fun (k : Nat)=>[(5,.one (.d (.int .i64 k)))]) (fun (k : Nat)=>k≤a.length∧k≤b.length∧bc a b = bc (a.drop k) (b.drop k)) (fun (k : Nat)=>a.length - k) 0 (q1Q J) ?_ (fun k ⟨hk,hq,hs⟩=>?_))|(show Exists _; refine Exists.intro (k + 1) ⟨?_,?_,wK,(q1Q J),(q2Q J J)⟩))
 all_goals (try (((simp_all [bc,xV,vQ,am,List.drop_eq_nil_of_le]) <;> exact wL); done))
theorem Nv(x : Int) : CallA Tryz.prog 246 [.one (.d (.int .i64 x))] [] (.one (.d (.bool false))) []:=by
 refine enter ae Tryz.func246 rfl (by decide +kernel) rfl fun hok w0 σ0 φ0 M=>?_
 repeat' (first|refine wG ?_)
 all_goals (try (((simp_all [am,List.drop_eq_nil_of_le]) <;> exact wL); done))
theorem Nw(x y : Int) : CallA Tryz.prog 198 [.one (.d (.int .i64 x)),.one (.d (.int .i64 y))] [] (.one (.d (.int .i64 (if x < y then -1 else if y < x then 1 else 0)))) []:=by
 refine enter ae Tryz.func198 rfl (by decide +kernel) rfl fun hok w0 σ0 φ0 M=>?_
 repeat' (first|(refine h1H ?_; (refine h0H ?_; refine aa J J J J J J J J (Nv _) J ?_))|refine wG ?_|(refine h4H ?_; refine ag J (fun h=>?_) (fun h=>?_)))
 all_goals (try (((simp_all [am,List.drop_eq_nil_of_le]) <;> exact wL); done))
theorem Nx(a b : List Int) : CallA Tryz.prog 130 [.one (.d (aL a)),.one (.d (aL b))] [] (.one (.d (.int .i64 (bc a b)))) []:=by
 refine enter ae Tryz.func130 rfl (by decide +kernel) rfl fun hok w0 σ0 φ0 M=>?_
 have h1:=hok.1.sl; have h2:=hok.2.1.sl; clear hok; simp only [List.length_map] at h1 h2; replace h1:=h1.1; replace h2:=h2.1
 repeat' (first|(refine h1H ?_; (refine h0H ?_; refine aa J J J J J J J J (Nw _ _) J ?_))|refine wG ?_|(refine h4H ?_; first|refine ag J (fun h=>?_) (fun h=>?_)|refine aB 2 J [(0,_),(1,_),(9,_),(10,_)] (q4Q J J J J) (fun (k : Nat)=>[(11,.one (.d (.int .i64 k)))]) (fun (k : Nat)=>k≤a.length∧k≤b.length∧bc a b = bc (a.drop k) (b.drop k)) (fun (k : Nat)=>a.length - k) 0 (q1Q J) ?_ (fun k ⟨hk,hq,hs⟩=>?_))|(show Exists _; refine Exists.intro (k + 1) ⟨?_,?_,wK,(q1Q J),(q4Q J J J J)⟩))
 all_goals (try (((simp_all [bc,xV,vQ,am,List.drop_eq_nil_of_le]) <;> exact wL); done))
theorem c35(a b : List Int) : CallA Tryz.prog 35 [.one (.d (aL a)),.one (.d (aL b))] [] (.one (.d (.int .i64 (bc a b)))) []:=by
 refine enter ae Tryz.func35 rfl (by decide +kernel) rfl fun hok w0 σ0 φ0 M=>?_
 repeat' (first|(refine h1H ?_; (refine h0H ?_; refine aa J J J J J J J J (Nx _ _) J ?_))|refine wG ?_)
 all_goals (try (((simp_all [am,List.drop_eq_nil_of_le]) <;> exact wL); done))
def aV{α : Type}(p : α→Bool) : List α→Nat→Int
 | [],_=>-1
 | x::r,k=>if p x then k else aV p r (k + 1)
theorem FG(l : List Attr)(name : List UInt8) : CallA Tryz.prog 114 [.one (.d (aF l)),.one (.d (.str name))] [] (.one (.d (.int .i64 (aV (fun a : Attr=>a.name == name) l 0)))) []:=by
 refine enter ae Tryz.func114 rfl (by decide +kernel) rfl fun hok w0 σ0 φ0 M=>?_
 have h1:=hok.1.sl; clear hok; simp only [List.length_map] at h1; replace h1:=h1.1
 repeat' (first|refine wG ?_|(refine h4H ?_; first|refine ag J (fun h=>?_) (fun h=>?_)|refine aB 2 J [(0,_),(1,_)] (q2Q J J) (fun (k : Nat)=>[(5,.one (.d (.int .i64 k)))]) (fun (k : Nat)=>k≤l.length∧aV (fun a : Attr=>a.name == name) l 0 = aV (fun a : Attr=>a.name == name) (l.drop k) k) (fun (k : Nat)=>l.length - k) 0 (q1Q J) ?_ (fun k ⟨hk,hs⟩=>?_))|(show Exists _; refine Exists.intro (k + 1) ⟨?_,?_,wK,(q1Q J),(q2Q J J)⟩))
 all_goals (try (((simp_all [aV,am,List.drop_eq_nil_of_le]) <;> exact wL); done))
theorem FH(l : List Dim)(name : List UInt8) : CallA Tryz.prog 118 [.one (.d (aH l)),.one (.d (.str name))] [] (.one (.d (.int .i64 (aV (fun a : Dim=>a.name == name) l 0)))) []:=by
 refine enter ae Tryz.func118 rfl (by decide +kernel) rfl fun hok w0 σ0 φ0 M=>?_
 have h1:=hok.1.sl; clear hok; simp only [List.length_map] at h1; replace h1:=h1.1
 repeat' (first|refine wG ?_|(refine h4H ?_; first|refine ag J (fun h=>?_) (fun h=>?_)|refine aB 2 J [(0,_),(1,_)] (q2Q J J) (fun (k : Nat)=>[(5,.one (.d (.int .i64 k)))]) (fun (k : Nat)=>k≤l.length∧aV (fun a : Dim=>a.name == name) l 0 = aV (fun a : Dim=>a.name == name) (l.drop k) k) (fun (k : Nat)=>l.length - k) 0 (q1Q J) ?_ (fun k ⟨hk,hs⟩=>?_))|(show Exists _; refine Exists.intro (k + 1) ⟨?_,?_,wK,(q1Q J),(q2Q J J)⟩))
 all_goals (try (((simp_all [aV,am,List.drop_eq_nil_of_le]) <;> exact wL); done))
end Go.Proofs.YtpejdgkaapnekaaGreat
namespace Go.Proofs.YtpejdgkaapnekaaGreat
open Go Go.Abs
theorem mq : ∀ a : List Int,bc a a = 0
 | []=>rfl
 | x::a=>by simp only [bc,if_neg (Int.lt_irrefl x)]; exact mq a
theorem gH : ∀ a b : List Int,bc b a = - bc a b
 | [],[]=>rfl
 | [],_::_=>rfl
 | _::_,[]=>rfl
 | x::a,y::b=>by
   simp only [bc]
   by_cases h1 : x < y
   ·rw [if_pos h1,if_neg (by omega),if_pos h1]; rfl
   ·by_cases h2 : y < x
    ·rw [if_pos h2,if_neg h1,if_pos h2]
    ·rw [if_neg h1,if_neg h2,if_neg h1,if_neg h2]; exact gH a b
theorem f9 : ∀ a b c : List Int,bc a b≤0→bc b c≤0→bc a c≤0∧(bc a c = 0→bc a b = 0∧bc b c = 0)
 | [],[],[],_,_=>by simp [bc]
 | [],[],_::_,_,_=>by simp [bc]
 | [],_::_,[],_,h=>by simp [bc] at h
 | [],_::_,_::_,_,_=>by simp [bc]
 | _::_,[],_,h,_=>by simp [bc] at h
 | _::_,_::_,[],_,h=>by simp [bc] at h
 | x::a,y::b,z::c,h1,h2=>by
   have ih:=f9 a b c
   simp only [bc] at h1 h2 ⊢
   split at h1 <;> split at h2 <;> (try split at h1) <;> (try split at h2) <;> (try omega)
   all_goals first
    | (rw [if_pos (by omega)]; omega)
    | (have:=ih h1 h2
       simp only [if_neg (show ¬ x < y by omega),if_neg (show ¬ y < x by omega),if_neg (show ¬ y < z by omega),if_neg (show ¬ z < y by omega),if_neg (show ¬ x < z by omega),if_neg (show ¬ z < x by omega)]
       exact this)
theorem At : ∀ a b : List Int,bc a b = 0→a = b
 | [],[],_=>rfl
 | [],_::_,h=>by simp [bc] at h
 | _::_,[],h=>by simp [bc] at h
 | x::a,y::b,h=>by
   simp only [bc] at h
   split at h
   ·omega
   ·split at h
    ·omega
    ·rw [At a b h,show x = y by omega]
end Go.Proofs.YtpejdgkaapnekaaGreat
namespace Go.Proofs.YtpejdgkaapnekaaGreat
open Go Go.Abs
attribute [local irreducible] ac OkC ao ax ap aJ
set_option maxRecDepth 10000
def dG(c : UInt8) : Bool:=decide (32≤c.toNat) && decide (c.toNat≤126)
def dm(k n d : Int)(s : List UInt8) : Bool :=
 if k = 0 then lV d s && (decide (1≤n) && decide (n≤255))
 else if k = 1 then lV d s && (n == 0 || n == 1)
 else if k = 2 then s == [] && (decide (1≤d) && (decide (d≤1099511627776) && (decide (-1099511627776≤n) && (decide (n≤1099511627776) && ((Nat.gcd n.natAbs d.toNat : Nat) : Int) == 1))))
 else if k = 3 then n == 0 && (d == 0 && (decide ((s.length : Int)≤16) && s.all dG))
 else false
def fj(k n d : Int)(s : List UInt8)(t : Int) : Bool :=
 dm k n d s && (decide (1≤t) && (decide (t≤4) && (if k = 0 then true else if k = 1 then t == 1 else if k = 2 then t == 3 || t == 2 && d == 1 else t == 4)))
theorem MT(c : Int) : CallA Tryz.prog 281 [.one (.d (.int .i32 c))] [] (.one (.d (.bool (decide (c < 32) || decide (126 < c))))) []:=by
 refine enter ae Tryz.func281 rfl (by decide +kernel) rfl fun hok w0 σ0 φ0 M=>?_
 repeat' (first|refine wG ?_|(refine h1H ?_; (refine h5H ?_; refine aG J J J J (fun h=>?_) (fun h=>?_))))
 all_goals (try (((simp_all [am,List.drop_eq_nil_of_le]) <;> exact wL); done))
end Go.Proofs.YtpejdgkaapnekaaGreat
namespace Go.Abs
open Go
variable {P : Program} {V : Env} {T : Tab} {c : Ctx} {w0 : World} {σ0 : Sig} {φ0 : Pl} {M : Nat→Prop} {n : Nat} {rd : Option Nat} {mk : List Deferred} {ops : Array Oper} {o : Oper} {rest : List Oper} {fr : List (Nat×AV)} {sto : Sto} {K : St→Prop} {st st0 : St}
def c8(met : List (List UInt8)) : List (List D×List D):=met.map fun nm=>([.str nm],[.bool true])
theorem pV{s : List UInt8} : ∀ {met : List (List UInt8)} {i : Nat},(met.contains s = true→∃ j,cz [.str s] (c8 met) i = some (j,[.bool true]))∧(met.contains s = false→cz [.str s] (c8 met) i = none)
 | [],i=>by simp [c8,cz]
 | x::r,i=>by
   have ih:=pV (s:=s) (met:=r) (i:=i + 1)
   simp only [c8,List.map_cons,cz,cb,eqD,Bool.and_true,List.contains_cons] at ih ⊢
   cases hb : (s == x) with
   | true=>simp
   | false=>simpa [hb] using ih
theorem yE{s : List UInt8} : ∀ {met : List (List UInt8)},met.contains s = false→gx [.str s] [.bool true] (c8 met) = c8 (met ++ [s])
 | [],_=>rfl
 | x::r,h=>by
   simp only [List.contains_cons,Bool.or_eq_false_iff] at h
   have ih:=yE (s:=s) (met:=r) h.2
   simp only [c8,List.map_cons,gx,cb,eqD,Bool.and_true,List.cons_append,h.1,cond_false] at ih ⊢
   rw [ih]
theorem ng : ∀ {met : List (List UInt8)},fL [.str] (c8 met) = true
 | []=>rfl
 | x::r=>by
   have ih:=ng (met:=r)
   simp only [c8,List.map_cons,fL,eR,Bz,Bool.and_true,Bool.true_and] at ih ⊢
   exact ih
theorem Em(hV : EnvOk P V){d t id : Nat}{m : MTy}{x y : Operand}{s : List UInt8}{met : List (List UInt8)}(ho : o.op = .lookup t x y false)(hg : o.guard = none)(hdst : o.dst = some d)(hd : Nat.blt d n = true)
  (hm : look V.M t = some m) (hms : m.ks = [.str]) (hk : m.kg = false) (hv : m.vg = false) (hz : m.z = [.bool false])
  (hx : ev ⟨fr,sto⟩ x = some (.one (.mapr id))) (hl : look sto id = some (.map false false (c8 met))) (hy : ev ⟨fr,sto⟩ y = some (.one (.d (.str s))))
  (h : ac P ⟨w0,σ0,φ0,M,n,rd,mk⟩ ops rest ⟨(d,.one (.d (.bool (met.contains s))))::fr,sto⟩ K) : ac P ⟨w0,σ0,φ0,M,n,rd,mk⟩ ops (o::rest) ⟨fr,sto⟩ K:=by
 refine pW (hV.M t m hm) ho hg (by rw [hdst]; exact hd) hx (es:=c8 met) (by rw [hl,hk,hv]) hy (kd:=[.str s]) (by rw [hk]; rfl) (by rw [hms]; rfl) (by rw [hms]; exact ng) (v:=.one (.d (.bool (met.contains s)))) ?_ (by rw [hdst]; exact h)
 cases hb : met.contains s with
 | true =>
   obtain ⟨j,hj⟩:=(pV (i:=0)).1 hb
   simp only [qM,hj,hv,uP]; rfl
 | false =>
   simp only [qM,(pV (i:=0)).2 hb,hv,hz,uP]; rfl
theorem Gg(hV : EnvOk P V){t id : Nat}{m : MTy}{x y z : Operand}{s : List UInt8}{met : List (List UInt8)}(ho : o.op = .mapUpdate t x y z)(hg : o.guard = none)(hdst : o.dst = none)
  (hm : look V.M t = some m) (hms : m.ks = [.str]) (hk : m.kg = false) (hv : m.vg = false)
  (hx : ev ⟨fr,sto⟩ x = some (.one (.mapr id))) (hl : look sto id = some (.map false false (c8 met))) (hy : ev ⟨fr,sto⟩ y = some (.one (.d (.str s)))) (hz : ev ⟨fr,sto⟩ z = some (.one (.d (.bool true)))) (hnot : met.contains s = false)
  (h : ac P ⟨w0,σ0,φ0,M,n,rd,mk⟩ ops rest ⟨fr,bH id (.map false false (c8 (met ++ [s]))) sto⟩ K) : ac P ⟨w0,σ0,φ0,M,n,rd,mk⟩ ops (o::rest) ⟨fr,sto⟩ K:=by
 refine mP (hV.M t m hm) ho hg hdst hx (es:=c8 met) (by rw [hl,hk,hv]) hy (kd:=[.str s]) (by rw [hk]; rfl) (by rw [hms]; rfl) (by rw [hms]; exact ng) hz (vd:=[.bool true]) (by rw [hv]; rfl) ?_
 rw [yE hnot,hk,hv]
 exact h
theorem jU(k : Nat)(ρ : List (Nat×Nat)){d : Nat}{fop : Operand}{args : Array Operand}{ats : Array TypeId}{f : FuncId}{cargs : List AV}{cs rs : Sto}{rav rav' : AV}{sto' : Sto}(hC : CallA P f cargs cs rav rs)
  (ho : o.op = .call { callee:=.value fop,args:=args,argTypes:=ats }) (hg : o.guard = none) (hdst : o.dst = some d) (hd : Nat.blt d n = true) (hf : ev ⟨fr,sto⟩ fop = some (.one (.d (.fn f []))))
  (ha : evL ⟨fr,sto⟩ args.toList = some (cJ (rn k ρ) cargs)) (hpass : Pass ⟨fr,sto⟩ (rn k ρ) ρ cs) (hcomp : CompatL ⟨fr,sto⟩ (rn k ρ) ρ rs)
  (hk : (fb ρ && iC ρ && fU cs ρ && fB ρ && cw ρ rs && da cs (cargs ++ []) && bd cs cs && cX rs rav && bd rs rs && Nat.ble (k + 16) 1000000) = true) (hfresh : lH k ⟨fr,sto⟩ = true)
  (hr : dr (rn k ρ) rav = rav') (hs : dC (rn k ρ) (fA ρ sto) rs = sto')
  (h : ac P ⟨w0,σ0,φ0,M,n,rd,mk⟩ ops rest ⟨(d,rav')::fr,sto'⟩ K) : ac P ⟨w0,σ0,φ0,M,n,rd,mk⟩ ops (o::rest) ⟨fr,sto⟩ K:=by
 subst hr; subst hs
 exact kA k ρ ho hg (by rw [hdst]; exact hd) hf ha (caps:=[]) (by simpa using hC) hpass hcomp hk (oh hfresh) (by rw [hdst]; exact h)
theorem b0{α : Type}{body : Code}{Q : Exit→St→Prop}(rg : Nat)(hrg : i7 body = rg)(kept : List (Nat×AV))(hk : SubL fr kept)(L : α→List (Nat×AV))(S : α→Sto)(Inv : α→Prop)(μ : α→Nat)(x0 : α)(hL : SubL fr (L x0))(hS : SubL sto (S x0))(h0 : Inv x0)
  (hround : ∀ x,Inv x→OkC P c body ⟨L x ++ kept,S x⟩ (ax (fun st'=>∃ y,Inv y∧μ y < μ x∧SubL st'.sto (S y)∧SubL st'.fr (L y)∧SubL st'.fr kept) Q)) : OkC P c (.loop body) ⟨fr,sto⟩ Q:=by
 have hap : ∀ {f a b : List (Nat×AV)},SubL f a→SubL f b→SubL f (a ++ b):=by
  intro f a b h1 h2
  induction a with
  | nil=>exact h2
  | cons p r ih=>exact ⟨h1.1,ih h1.2⟩
 have hdr : ∀ {f : List (Nat×AV)} {s s' : Sto},SubL s s'→Imp c ⟨f,s⟩ ⟨f,s'⟩:=fun h a w σ φ hr=>⟨σ,φ,hr.dropTo fun i e hi=>h.look hi⟩
 refine bu (st':=⟨L x0 ++ kept,S x0⟩) (Imp.trans (i5 (hap hL hk)) (hdr hS)) ?_
 refine ny (fun n st=>∃ x,Inv x∧n = μ x∧st = ⟨L x ++ kept,S x⟩) (μ x0) ⟨x0,h0,rfl,rfl⟩ ?_
 rintro n st ⟨x,hx,rfl,rfl⟩
 refine je (hround x hx) fun e st h=>?_
 cases e with
 | normal =>
   obtain ⟨y,hy,hlt,hs,h1,h2⟩:=h
   obtain ⟨f,s⟩:=st
   simp only at hs h1 h2
   exact ⟨μ y,_,hlt,⟨y,hy,rfl,rfl⟩,Imp.trans (i5 (hap h1 h2)) (hdr hs)⟩
 | _=>exact h
theorem fZ{t ty : TypeId}{x y : Operand}{k k' : IntKind}{a b : Int}(ho : o.op = .binOp .rem t x y ty)
  (hx : ev st x = some (.one (.d (.int k a)))) (hy : ev st y = some (.one (.d (.int k' b)))) (hk : kEq k k' = true) (ha : 0≤a) (h0 : 0 < b) : aQ V st o 0 = some ⟨.one (.d (.int k (a % b))),[],[]⟩:=by
 rw [← Int.tmod_eq_emod_of_nonneg ha]
 exact wd ho hx hy hk (by omega)
theorem ec{t ty : TypeId}{x y : Operand}{k k' : IntKind}{a b : Int}(ho : o.op = .binOp .quo t x y ty)
  (hx : ev st x = some (.one (.d (.int k a)))) (hy : ev st y = some (.one (.d (.int k' b)))) (hk : kEq k k' = true) (ha : 0≤a) (h0 : 0 < b) (hz : k.wrap (a / b) = a / b) : aQ V st o 0 = some ⟨.one (.d (.int k (a / b))),[],[]⟩:=by
 refine En ho hx hy hk (by omega) ?_
 rw [Int.tdiv_eq_ediv_of_nonneg ha]
 exact hz
theorem bR{dl : List Nat}{ss : St}(h : sealL st dl = some ss) : Imp c st ss:=fun a w σ φ hr=>by
 obtain ⟨σs,_,h3,_⟩:=Rel.sealL h hr
 exact ⟨σs,φ,h3⟩
theorem aw(k : Nat){d : Nat}{fop : Operand}{args : Array Operand}{ats : Array TypeId}{f : FuncId}{caps : List D}{avs avs' : List AV}{rav rav' : AV}
  (ho : o.op = .call { callee:=.value fop,args:=args,argTypes:=ats }) (hg : o.guard = none) (hdst : o.dst = some d) (hd : Nat.blt d n = true) (hf : ev ⟨fr,sto⟩ fop = some (.one (.d (.fn f caps))))
  (ha : evL ⟨fr,sto⟩ args.toList = some avs) (hD : cq avs = true) (hap : (avs ++ caps.map fun x=>.one (.d x)) = avs') (hC : CallA P f avs' [] rav [])
  (hk : (cw [] [] && Nat.ble (k + 16) 1000000 && cX [] rav && bd [] []) = true) (hfresh : lH k ⟨fr,sto⟩ = true) (hr : dr (rn k []) rav = rav')
  (h : ac P ⟨w0,σ0,φ0,M,n,rd,mk⟩ ops rest ⟨(d,rav')::fr,sto⟩ K) : ac P ⟨w0,σ0,φ0,M,n,rd,mk⟩ ops (o::rest) ⟨fr,sto⟩ K:=by
 subst hap; subst hr
 exact B9 k ho hg (by rw [hdst]; exact hd) hf ha hD hC hk (oh hfresh) (by rw [hdst]; exact h)
theorem bh(k : Nat){ops : Array Oper}{acc : List Tr}{d : Nat}{fop : Operand}{args : Array Operand}{ats : Array TypeId}{f : FuncId}{caps : List D}{avs avs' : List AV}{rav rav' : AV}
  (ho : o.op = .call { callee:=.value fop,args:=args,argTypes:=ats }) (hg : o.guard = none) (hdst : o.dst = some d) (hd : Nat.blt d c.n = true) (hf : ev ⟨fr,sto⟩ fop = some (.one (.d (.fn f caps))))
  (ha : evL ⟨fr,sto⟩ args.toList = some avs) (hD : cq avs = true) (hap : (avs ++ caps.map fun x=>.one (.d x)) = avs') (hC : CallA P f avs' [] rav [])
  (hk : (cw [] [] && Nat.ble (k + 16) 1000000 && cX [] rav && bd [] []) = true) (hr : dr (rn k []) rav = rav')
  (h : ao P c ops st0 rest ⟨(d,rav')::fr,sto⟩ (lP k [] [] rav []::acc) K) : ao P c ops st0 (o::rest) ⟨fr,sto⟩ acc K:=by
 subst hap; subst hr
 refine mz hg (D8 k ho (by rw [hdst]; exact hd) hf ha hD hC hk) ?_
 rw [hdst]; exact h
def sv(P : Program)(c : Ctx)(body : Code)(Q : Exit→St→Prop) : Nat→St→Prop
 | 0,_=>False
 | m + 1,st=>OkC P c body st (ax (fun st'=>sv P c body Q m st') Q)
theorem pK{body : Code}{Q : Exit→St→Prop}(rg : Nat)(hrg : i7 body = rg)(m : Nat)(h : sv P c body Q m st) : OkC P c (.loop body) st Q:=by
 intro a w σ φ hr
 refine wpIn_loop_rounds m ?_
 have key : ∀ m st a w σ φ,sv P c body Q m st→Rel c st a w σ φ→Code.roundsIn (fnc c) 0 P body (fun e a' w'=>∃ st' σ' φ',Q e st'∧RelE c e st' a' w' σ' φ') m a w:=by
  intro m
  induction m with
  | zero=>intro st a w σ φ h; exact h.elim
  | succ m ih =>
    intro st a w σ φ h hr
    rw [roundsIn_succ]
    refine wpIn_mono (h a w σ φ hr) fun e a' w' ⟨st',σ',φ',h1,h2⟩=>?_
    cases e with
    | normal=>exact ih st' a' w' σ' φ' h1 (h2.rel (by simp))
    | _=>exact ⟨st',σ',φ',h1,h2⟩
 exact key m st a w σ φ h hr
theorem fi(hV : EnvOk P V)(id : Nat){d : Nat}{v : AV}{wr : List (Nat×Option AObj)}{nw : List Nat}(hg : o.guard = none)(hdst : o.dst = some d)(hd : Nat.blt d n = true)(h : aQ V ⟨fr,sto⟩ o id = some ⟨v,wr,nw⟩)(hid : Nat.blt (id + 1) 1000000 = true)(hf : dE ⟨fr,sto⟩ nw = true)
  (hk : ac P ⟨w0,σ0,φ0,M,n,rd,mk⟩ ops rest ⟨(d,v)::fr,cC wr sto⟩ K) : ac P ⟨w0,σ0,φ0,M,n,rd,mk⟩ ops (o::rest) ⟨fr,sto⟩ K:=by
 have:=oO (c:=⟨w0,σ0,φ0,M,n,rd,mk⟩) hV (o:=o) (by rw [hdst]; exact hd) h hid (ea hf) ops rest K (by rw [hdst]; exact hk)
 rwa [AG hg] at this
theorem ja{T : Tab}{rs : List ResultVar}{rav rav' : AV}{rsto : Sto}{e : Exit}{st : St}{l : List (Bool×List AC)}(he : e = .ret∨e = .normal)(hl : lT T st rs = some l)(hr : oc l = some rav')(h : rav' = rav)(hs : SubL st.sto rsto) : aJ T rs rav rsto e st :=
 ⟨he,l,hl,by rw [hr,h],hs⟩
end Go.Abs
namespace Go.Abs
open Go
variable {P : Program} {V : Env} {T : Tab} {c : Ctx} {w0 : World} {σ0 : Sig} {φ0 : Pl} {M : Nat→Prop} {n : Nat} {rd : Option Nat} {mk : List Deferred} {ops : Array Oper} {o : Oper} {rest : List Oper} {fr : List (Nat×AV)} {sto : Sto} {K : St→Prop} {st st0 : St} {acc : List Tr}
variable {σ σ' : Sig} {φ φ' : Pl} {w w' : World}
def uM : AC→Bool
 | .own i _ | .sub i _ _ | .ref i _ | .rref i _ _ | .yl i | .mapr i | .bsl i _ _=>Nat.ble i 1000000
 | _=>true
def kj : List AC→Bool
 | []=>true
 | x::r=>uM x && kj r
def qK : List (Bool×List AC)→Bool
 | []=>true
 | t::r=>kj t.2 && qK r
def uN : AV→Bool
 | .one x=>uM x
 | .agg cs=>kj cs
 | .tup ts=>qK ts
 | .any=>true
def iy : List (Nat×AV)→Bool
 | []=>true
 | p::r=>uN p.2 && iy r
def kl : Sto→Bool
 | []=>true
 | p::r=>(match p.2 with | .box cs=>kj cs | .loop _ fr _ _=>iy fr | _=>true) && kl r
theorem ru{x : AC}(h : uM x = true) : ∀ i,1000000 < i→x.men i = false:=by
 intro i hi
 have key : ∀ {j : Nat},Nat.ble j 1000000 = true→Nat.beq j i = false:=by
  intro j hj
  have:=Nat.le_of_ble_eq_true hj
  cases hb : Nat.beq j i with
  | false=>rfl
  | true=>have:=Nat.eq_of_beq_eq_true hb; omega
 cases x <;> first | rfl | exact key h
theorem jM : ∀ {l : List AC},kj l = true→∀ i,1000000 < i→b6 i l = false
 | [],_,_,_=>rfl
 | x::r,h,i,hi=>by
   simp only [kj,Bool.and_eq_true] at h
   simp only [b6,ru h.1 i hi,jM h.2 i hi,Bool.or_self]
theorem rx : ∀ {l : List (Bool×List AC)},qK l = true→∀ i,1000000 < i→fl i l = false
 | [],_,_,_=>rfl
 | x::r,h,i,hi=>by
   simp only [qK,Bool.and_eq_true] at h
   simp only [fl,jM h.1 i hi,rx h.2 i hi,Bool.or_self]
theorem ry{x : AV}(h : uN x = true) : ∀ i,1000000 < i→x.men i = false:=by
 intro i hi
 cases x with
 | one x=>exact ru h i hi
 | agg cs=>exact jM h i hi
 | tup ts=>exact rx h i hi
 | any=>rfl
theorem pN : ∀ {l : List (Nat×AV)},iy l = true→∀ {s : Nat} {v : AV},look l s = some v→uN v = true
 | [],_,_,_,h=>by simp [look] at h
 | (t,x)::r,h,s,v,hl=>by
   simp only [iy,Bool.and_eq_true] at h
   rcases ah hl with ⟨_,rfl⟩ | ⟨_,hl⟩
   ·exact h.1
   ·exact pN h.2 hl
theorem rz : ∀ {l : List (Nat×AV)},iy l = true→∀ i,1000000 < i→bn i l = false
 | [],_,_,_=>rfl
 | x::r,h,i,hi=>by
   simp only [iy,Bool.and_eq_true] at h
   simp only [bn,ry h.1 i hi,rz h.2 i hi,Bool.or_self]
theorem pO : ∀ {l : Sto},kl l = true→∀ {j : Nat} {e : AObj},look l j = some e→∀ i,1000000 < i→e.men i = false
 | [],_,_,_,h,_,_=>by simp [look] at h
 | (t,x)::r,h,j,e,hl,i,hi=>by
   simp only [kl,Bool.and_eq_true] at h
   rcases ah hl with ⟨_,rfl⟩ | ⟨_,hl⟩
   ·have h1:=h.1
    cases e with
    | box cs=>exact jM h1 i hi
    | loop li fr s q=>exact rz h1 i hi
    | _=>rfl
   ·exact pO h.2 hl i hi
theorem ne{α : Type} : ∀ {a b : List (Nat×α)} {i : Nat},look (a ++ b) i = match look a i with | some v=>some v | none=>look b i
 | [],_,_=>rfl
 | (j,x)::r,b,i=>by
   simp only [List.cons_append,look]
   cases Nat.beq j i with
   | true=>rfl
   | false=>simp only [cond_false]; exact ne
def gL(s : Sto) : Prop:=∀ i e,look s i = some e→1000000≤i
theorem io{o1 s : Sto}(hs : gL s){i : Nat}(hi : i < 1000000) : look (o1 ++ s) i = look o1 i:=by
 rw [ne]
 cases hl : look o1 i with
 | some v=>rfl
 | none =>
   simp only
   cases hl' : look s i with
   | none=>rfl
   | some e=>have:=hs _ _ hl'; omega
theorem dK{o1 s : Sto}(ho : eT 1000000 o1 = true){i : Nat}(hi : 1000000≤i) : look (o1 ++ s) i = look s i:=by
 rw [ne]
 cases hl : look o1 i with
 | none=>rfl
 | some e=>have:=kG ho hl; omega
theorem RepC.mv{x : AC}{v : Value}{s s2 : Sto}(h : ∀ i,x.men i = true→look s2 i = look s i∧φ' i = φ i)(hr : RepC σ φ s x v) : RepC σ φ' s2 x v:=by
 have hk : ∀ i,x.men i = true→bf s2 i = bf s i:=fun i hi=>by unfold bf; rw [(h i hi).1]
 cases hr with
 | d h1=>exact .d h1
 | junk h1=>exact .junk h1
 | dead hx h1 =>
   refine .dead ?_ h1
   cases x <;> simp only [bx] at hx ⊢ <;> first | exact hx | (rw [hk _ (Nat.beq_refl _)]; exact hx)
 | ownNil hl hp=>have:=h _ (Nat.beq_refl _); exact .ownNil (this.1.trans hl) (this.2.trans hp)
 | own hl hn hp=>have:=h _ (Nat.beq_refl _); exact .own (this.1.trans hl) hn (this.2.trans hp)
 | sub hl hn hc hA =>
   have:=h _ (Nat.beq_refl _)
   refine .sub (this.1.trans hl) hn hc fun h0=>?_
   obtain ⟨B,cap,h1,h2⟩:=hA h0
   exact ⟨B,cap,this.2.trans h1,h2⟩
 | ref hl hp=>have:=h _ (Nat.beq_refl _); exact .ref (this.1.trans hl) (this.2.trans hp)
 | rref hl hp=>have:=h _ (Nat.beq_refl _); exact .rref (this.1.trans hl) (this.2.trans hp)
 | yl hl hp=>have:=h _ (Nat.beq_refl _); exact .yl (this.1.trans hl) (this.2.trans hp)
 | mapr hl hp=>have:=h _ (Nat.beq_refl _); exact .mapr (this.1.trans hl) (this.2.trans hp)
 | bsl hl hp=>have:=h _ (Nat.beq_refl _); exact .bsl (this.1.trans hl) (this.2.trans hp)
theorem yz{x : AC}{s : Sto}(h : bx s x = true) : ∀ i,x.men i = true→bf s i = true:=by
 intro i hi
 cases x <;> simp only [AC.men,Bool.false_eq_true] at hi <;> (have:=Nat.eq_of_beq_eq_true hi; subst this; exact h)
theorem mN : ∀ {l : List AC} {s : Sto},dY s l = true→∀ i,b6 i l = true→bf s i = true
 | [],_,_,_,h=>by simp [b6] at h
 | x::r,s,h,i,hi=>by
   simp only [dY,Bool.and_eq_true] at h
   simp only [b6,Bool.or_eq_true] at hi
   rcases hi with hi | hi
   ·exact yz h.1 i hi
   ·exact mN h.2 i hi
theorem yA : ∀ {l : List (Bool×List AC)} {s : Sto},uO s l = true→∀ i,fl i l = true→bf s i = true
 | [],_,_,_,h=>by simp [fl] at h
 | x::r,s,h,i,hi=>by
   simp only [uO,Bool.and_eq_true] at h
   simp only [fl,Bool.or_eq_true] at hi
   rcases hi with hi | hi
   ·exact mN h.1 i hi
   ·exact yA h.2 i hi
theorem yB{x : AV}{s : Sto}(h : cX s x = true) : ∀ i,x.men i = true→bf s i = true:=by
 intro i hi
 cases x with
 | one x=>exact yz h i hi
 | agg cs=>exact mN h i hi
 | tup ts=>exact yA h i hi
 | any=>simp [AV.men] at hi
theorem yC : ∀ {l : List (Nat×AV)} {s : Sto},iF s l = true→∀ i,bn i l = true→bf s i = true
 | [],_,_,_,h=>by simp [bn] at h
 | x::r,s,h,i,hi=>by
   simp only [iF,Bool.and_eq_true] at h
   simp only [bn,Bool.or_eq_true] at hi
   rcases hi with hi | hi
   ·exact yB h.1 i hi
   ·exact yC h.2 i hi
theorem pP{s s2 : Sto} : ∀ {l : List AC} {vs : List Value},(∀ i,b6 i l = true→look s2 i = look s i∧φ' i = φ i)→All2 (RepC σ φ s) l vs→All2 (RepC σ φ' s2) l vs
 | [],[],_,_=>trivial
 | x::r,v::vs,h,ha=>⟨RepC.mv (fun i hi=>h i (by simp [b6,hi])) ha.1,pP (fun i hi=>h i (by simp [b6,hi])) ha.2⟩
 | [],_::_,_,ha=>ha.elim
 | _::_,[],_,ha=>ha.elim
theorem HZ{s s2 : Sto}{t : Bool×List AC}{v : Value}(h : ∀ i,b6 i t.2 = true→look s2 i = look s i∧φ' i = φ i)(hr : RepT σ φ s t v) : RepT σ φ' s2 t v:=by
 obtain ⟨b,cs⟩:=t
 cases b with
 | true=>obtain ⟨vs,rfl,h1⟩:=hr; exact ⟨vs,rfl,pP h h1⟩
 | false=>exact pP h hr
theorem Hb{s s2 : Sto} : ∀ {l : List (Bool×List AC)} {vs : List Value},(∀ i,fl i l = true→look s2 i = look s i∧φ' i = φ i)→All2 (RepT σ φ s) l vs→All2 (RepT σ φ' s2) l vs
 | [],[],_,_=>trivial
 | x::r,v::vs,h,ha=>⟨HZ (fun i hi=>h i (by simp [fl,hi])) ha.1,Hb (fun i hi=>h i (by simp [fl,hi])) ha.2⟩
 | [],_::_,_,ha=>ha.elim
 | _::_,[],_,ha=>ha.elim
theorem RepV.mv{x : AV}{v : Value}{s s2 : Sto}(h : ∀ i,x.men i = true→look s2 i = look s i∧φ' i = φ i)(hr : RepV σ φ s x v) : RepV σ φ' s2 x v:=by
 cases x with
 | one x=>exact RepC.mv h hr
 | agg cs=>obtain ⟨vs,rfl,h1⟩:=hr; exact ⟨vs,rfl,pP h h1⟩
 | tup ts=>obtain ⟨vs,rfl,h1⟩:=hr; exact ⟨vs,rfl,Hb h h1⟩
 | any=>trivial
theorem rW{e : AObj}{s : Sto}(h : B2 s e = true) : ∀ i,e.men i = true→bf s i = true:=by
 intro i hi
 cases e with
 | box cs=>exact mN h i hi
 | loop li fr st p=>exact yC h i hi
 | _=>simp [AObj.men] at hi
theorem tB : ∀ {fr : List (Nat×AV)} {s : Nat} {v : AV} {i : Nat},look fr s = some v→v.men i = true→bn i fr = true
  | [],_,_,_,h,_=>by simp [look] at h
  | (t,x)::r,s,v,i,h,hi=>by
    rcases ah h with ⟨_,rfl⟩ | ⟨_,h⟩
    ·simp [bn,hi]
    ·simp only [bn,tB h hi,Bool.or_true]
theorem ObjRep.mv{id : Nat}{e : AObj}{s s2 : Sto}(h : ∀ i,e.men i = true→look s2 i = look s i∧φ' i = φ i)(hφ : φ' id = φ id)(hr : ObjRep σ φ s w id e) : ObjRep σ φ' s2 w id e:=by
 cases e with
 | box cs =>
   obtain ⟨B,c,vs,t,h1,h2,h3,h4⟩:=hr
   exact ⟨B,c,vs,t,hφ.trans h1,h2,pP h h3,h4⟩
 | row k b xs =>
   rcases hr with ⟨h1,h2⟩ | ⟨B,cap,arr,t,vs,h1,h2⟩
   ·exact .inl ⟨h1,hφ.trans h2⟩
   ·exact .inr ⟨B,cap,arr,t,vs,hφ.trans h1,h2⟩
 | map kg vg es =>
   obtain ⟨B,c,ents,h1,h2⟩:=hr
   exact ⟨B,c,ents,hφ.trans h1,h2⟩
 | loop li fr st p =>
   obtain ⟨B,c,r,h1,h2,h3,h4,h5⟩:=hr
   refine ⟨B,c,r,hφ.trans h1,h2,h3,fun s v hv=>?_,h5⟩
   obtain ⟨u,hu,hru⟩:=h4 s v hv
   refine ⟨u,hu,RepV.mv (fun i hi=>h i ?_) hru⟩
   exact tB hv hi
theorem HInv.pinned{o1 s : Sto}(ho : eT 1000000 o1 = true)(hs : gL s)(hin : bd s s = true)(h : HInv σ φ (o1 ++ s) w) : HInv σ φ s w:=by
 have hl : ∀ {i : Nat},bf s i = true→look s i = look (o1 ++ s) i:=fun {i} hi=>by
  obtain ⟨e,he⟩:=gM hi
  rw [dK ho (hs _ _ he)]
 refine ⟨h.sig,fun i e hi=>?_,fun i i' e e' p p' hi hi'=>?_⟩
 ·refine ObjRep.mv (fun j hj=>⟨hl (rW (eU hin hi) j hj),rfl⟩) rfl (h.obj i e ?_)
  rw [dK ho (hs _ _ hi)]; exact hi
 ·exact h.inj _ _ _ _ _ _ (by rw [dK ho (hs _ _ hi)]; exact hi) (by rw [dK ho (hs _ _ hi')]; exact hi')
def kM(s : Sto) : Prop:=∃ li fr st p,look s 1000000 = some (.loop li fr st p)
theorem Rel.callW{o1 s s' : Sto}{a : Act}{rav : AV}{v : Value}{dst : Option Nat}(hr : Rel c ⟨fr,o1 ++ s⟩ a w σ φ)(hd : aP c.n dst = true)(ho : (eT 1000000 o1 && kl o1 && iy fr) = true)(hs : gL s)(hs' : gL s')(hin' : bd s' s' = true)
  (hlp : kM s) (hlp' : kM s') (hfl : eH rav = true) (hret : RetP rav s' w σ φ (MOf φ s) v w' σ' φ') : Rel c ⟨bj dst rav fr,o1 ++ s'⟩ (a.put dst v) w' σ' (fun i=>if 1000000≤i then φ' i else φ i):=by
 simp only [Bool.and_eq_true] at ho
 obtain ⟨⟨ho,hoc⟩,hfc⟩:=ho
 have hpin : ∀ i,1000000≤i→(fun i=>if 1000000≤i then φ' i else φ i) i = φ' i:=fun i hi=>by simp [hi]
 have hsm : ∀ i : Nat,i < 1000000→(fun i=>if 1000000≤i then φ' i else φ i) i = φ i:=by
  intro i hi
  have h9 : ¬ 1000000≤i:=by omega
  simp [h9]
 have hpn : φ' 1000000 = φ 1000000:=hret.pin 1000000 ⟨Nat.le_refl _,by omega⟩
 generalize hφ : (fun i=>if 1000000≤i then φ' i else φ i) = φn at hpin hsm ⊢
 have hold : ∀ {i e},look s i = some e→look (o1 ++ s) i = some e:=fun {i e} hi=>by rw [dK ho (hs _ _ hi)]; exact hi
 have hownl : ∀ {i e},look o1 i = some e→look (o1 ++ s) i = some e:=fun {i e} hi=>by rw [io hs (kG ho hi)]; exact hi
 have hM : ∀ b,MOf φ s b→∃ i e p,look (o1 ++ s) i = some e∧1000000≤i∧φ i = some p∧p.1 = b:=by
  rintro b ⟨i,e,p,h1,h2,h3⟩
  exact ⟨i,e,p,hold h1,hs _ _ h1,h2,h3⟩
 have hsplit : ∀ {i e},look (o1 ++ s') i = some e→(i < 1000000∧look o1 i = some e)∨(1000000≤i∧look s' i = some e):=by
  intro i e hi
  rcases Nat.lt_or_ge i 1000000 with h | h
  ·exact .inl ⟨h,by rwa [io hs' h] at hi⟩
  ·exact .inr ⟨h,by rwa [dK ho h] at hi⟩
 obtain ⟨li,lf,ls,lp,hL⟩:=hlp
 obtain ⟨li',lf',ls',lp',hL'⟩:=hlp'
 have hE : Ext (fun i=>1000000 < i) φ φn (o1 ++ s) (o1 ++ s'):=by
  intro i hi
  rcases Nat.lt_or_ge i 1000000 with h | h
  ·rw [io hs' h,io hs h]
   cases hl : look o1 i with
   | none=>exact .inl rfl
   | some e=>exact .inr ⟨e,rfl,hsm i h,e,rfl,compat.refl _⟩
  ·have : i = 1000000:=by omega
   subst this
   exact .inr ⟨.loop li lf ls lp,hold hL,(hpin _ (Nat.le_refl _)).trans hpn,.loop li' lf' ls' lp',by rw [dK ho (Nat.le_refl _)]; exact hL',trivial⟩
 have hnot : ∀ {i e p},look o1 i = some e→φ i = some p→¬ MOf φ s p.1:=by
  intro i e p hi hp hm
  obtain ⟨j,e',q,h1,h2,h3,h4⟩:=hM _ hm
  exact hr.inv.inj _ _ _ _ _ _ (hownl hi) h1 (by have:=kG ho hi; omega) hp h3 h4.symm
 have hinv : HInv σ' φn (o1 ++ s') w':=by
  refine ⟨hret.inv.sig,fun i e hi=>?_,fun i i' e e' p p' hi hi' hne hp hp'=>?_⟩
  ·rcases hsplit hi with ⟨h1,h2⟩ | ⟨h1,h2⟩
   ·have hob:=hr.inv.obj _ _ (hownl h2)
    refine hob.ext hret.le hE (fun j hj=>pO hoc h2 j hj) (hsm i h1) fun B cc hB=>?_
    have hlt:=hob.lt hB
    have hn:=hnot h2 hB
    refine ⟨hret.kept.block B hlt hn,?_⟩
    have hn0 : σ B = none:=by
     cases e with
     | box cs=>obtain ⟨_,_,_,_,q1,_,_,q4⟩:=hob; rw [hB] at q1; cases q1; exact q4
     | row k b xs =>
       rcases hob with ⟨_,q⟩ | ⟨_,_,_,_,_,q1,_,_,_,_,_,_,_,_,q4⟩
       ·rw [hB] at q; cases q
       ·rw [hB] at q1; cases q1; exact q4
     | map kg vg es=>obtain ⟨_,_,_,q1,_,_,q4⟩:=hob; rw [hB] at q1; cases q1; exact q4
     | loop li fr st p=>obtain ⟨_,_,_,q1,_,_,_,q4⟩:=hob; rw [hB] at q1; cases q1; exact q4
    rw [hn0]
    cases hσ : σ' B with
    | none=>rfl
    | some x =>
      rcases hret.fresh B (by rw [hσ]; simp) with q | q | q
      ·exact absurd hn0 q
      ·exact absurd hlt (by simp only at q ⊢; omega)
      ·exact absurd q hn
   ·refine ObjRep.mv (s:=s') (fun j hj=>?_) (hpin i h1) (hret.inv.obj _ _ h2)
    obtain ⟨e2,he2⟩:=gM (rW (eU hin' h2) j hj)
    have hj2:=hs' _ _ he2
    exact ⟨dK ho hj2,hpin j hj2⟩
  ·rcases hsplit hi with ⟨h1,h2⟩ | ⟨h1,h2⟩ <;> rcases hsplit hi' with ⟨h3,h4⟩ | ⟨h3,h4⟩
   ·rw [hsm i h1] at hp; rw [hsm i' h3] at hp'; exact hr.inv.inj _ _ _ _ _ _ (hownl h2) (hownl h4) hne hp hp'
   ·rw [hsm i h1] at hp; rw [hpin i' h3] at hp'
    rcases hret.mine _ _ _ h4 hp' with q | q
    ·have:=(hr.inv.obj _ _ (hownl h2)).lt hp; omega
    ·intro e0; exact hnot h2 hp (e0 ▸ q)
   ·rw [hpin i h1] at hp; rw [hsm i' h3] at hp'
    rcases hret.mine _ _ _ h2 hp with q | q
    ·have:=(hr.inv.obj _ _ (hownl h4)).lt hp'; omega
    ·intro e0; exact hnot h4 hp' (e0 ▸ q)
   ·rw [hpin i h1] at hp; rw [hpin i' h3] at hp'; exact hret.inv.inj _ _ _ _ _ _ h2 h4 hne hp hp'
 have hMc : ∀ {b},MOf φ s b→c.w0.heap.size≤b∨c.M b:=by
  intro b hb
  obtain ⟨j,e',q,h1,h2,h3,rfl⟩:=hM _ hb
  exact hr.mine _ _ _ h1 h3
 refine hr.putTo (st':=⟨fr,o1 ++ s'⟩) hd (Sig.le_trans hr.le hret.le) (fun b hb=>?_) hinv (fun i e p hi hp=>?_) ⟨hret.kept.os.trans hr.fra.os,hret.kept.tape.trans hr.fra.tape,hret.kept.output.trans hr.fra.output,Nat.le_trans hr.fra.size hret.kept.size,Nat.le_trans hr.fra.drawn hret.kept.drawn,fun b hb hM'=>?_⟩ (fun i hi=>(hpin i hi.1).trans ((hret.pin i hi).trans (hr.pin i hi)))
  (fun _=>pQ hfl hret.rep) (fun t x _ hx=>⟨x,hx,fun z hz=>?_⟩)
 ·rcases hret.fresh b hb with q | q | q
  ·exact hr.fresh b q
  ·exact .inr (.inl (Nat.le_trans hr.fra.size q))
  ·exact .inr (hMc q)
 ·rcases hsplit hi with ⟨h1,h2⟩ | ⟨h1,h2⟩
  ·rw [hsm i h1] at hp; exact hr.mine _ _ _ (hownl h2) hp
  ·rw [hpin i h1] at hp
   rcases hret.mine _ _ _ h2 hp with q | q
   ·exact .inl (Nat.le_trans hr.fra.size q)
   ·exact hMc q
 ·rw [hret.kept.block b (Nat.lt_of_lt_of_le hb hr.fra.size) (fun hm=>?_)]
  ·exact hr.fra.block b hb hM'
  ·rcases hMc hm with q | q
   ·omega
   ·exact hM' q
 ·exact RepV.ext hret.le hE (fun i hi=>ry (pN hfc hx) i hi) hz
theorem nf{o1 s : Sto}(ho : eT 1000000 o1 = true)(hs : gL s) : ∀ {avs : List AV} {vs : List Value},da s avs = true→All2 (RepV σ φ (o1 ++ s)) avs vs→All2 (RepV σ φ s) avs vs
 | [],[],_,_=>trivial
 | x::r,v::vs,h,ha=>by
   simp only [da,Bool.and_eq_true] at h
   refine ⟨RepV.mv (fun i hi=>⟨?_,rfl⟩) ha.1,nf ho hs h.2 ha.2⟩
   obtain ⟨e,he⟩:=gM (yB h.1 i hi)
   rw [dK ho (hs _ _ he)]
 | [],_::_,_,ha=>ha.elim
 | _::_,[],_,ha=>ha.elim
theorem AE(o1 : Sto){d : Nat}{s s' : Sto}{fop : Operand}{args : Array Operand}{ats : Array TypeId}{f : FuncId}{avs : List AV}{rav : AV}(hC : CallA P f avs s rav s')(hs : gL s)(hs' : gL s')(hin : bd s s = true)(hin' : bd s' s' = true)(hlp : kM s)(hlp' : kM s')
  (hsto : sto = o1 ++ s) (ho : o.op = .call { callee:=.value fop,args:=args,argTypes:=ats }) (hg : o.guard = none) (hdst : o.dst = some d) (hd : Nat.blt d n = true) (hf : ev ⟨fr,sto⟩ fop = some (.one (.d (.fn f []))))
  (ha : evL ⟨fr,sto⟩ args.toList = some avs) (hai : da s avs = true) (hk : (eT 1000000 o1 && kl o1 && iy fr) = true) (hfl : eH rav = true)
  (h : ac P ⟨w0,σ0,φ0,M,n,rd,mk⟩ ops rest ⟨(d,rav)::fr,o1 ++ s'⟩ K) : ac P ⟨w0,σ0,φ0,M,n,rd,mk⟩ ops (o::rest) ⟨fr,sto⟩ K:=by
 subst hsto
 refine kF hg fun a w σ φ hr=>?_
 have hfr:=aC hr hf
 replace hfr:=RepC.d_inv hfr
 generalize hfe : a.eval fop = fv at hfr
 have hk':=hk
 simp only [Bool.and_eq_true] at hk'
 cases hfr with
 | fn cs hl hcs =>
   have : cs = []:=by cases cs with | nil=>rfl | cons _ _=>simp at hl
   subst this
   have hargs:=nf hk'.1.1 hs hai (gm hr ha)
   refine ⟨f,_,_,oA ho hfe hC.fn,hC.run w σ φ _ (HInv.pinned hk'.1.1 hs hin hr.inv) (by rw [List.append_nil]; exact hargs),?_⟩
   rintro e w' ⟨v,σ',φ',rfl,hret⟩
   refine ⟨v,_,σ',_,rfl,hr.callW (dst:=o.dst) (by rw [hdst]; exact hd) hk hs hs' hin' hlp hlp' hfl hret,?_⟩
   rw [hdst]; exact h
theorem Ge(o1 : Sto){d : Nat}{s s' : Sto}{fop : Operand}{args : Array Operand}{ats : Array TypeId}{avs : List AV}{rav : AV}(hY : YieldA P 1000000 avs s rav s')(hs : gL s)(hs' : gL s')(hin : bd s s = true)(hin' : bd s' s' = true)(hlp : kM s)(hlp' : kM s')
  (hsto : sto = o1 ++ s) (hrd : rd = none) (ho : o.op = .call { callee:=.value fop,args:=args,argTypes:=ats }) (hg : o.guard = none) (hdst : o.dst = some d) (hd : Nat.blt d n = true) (hf : ev ⟨fr,sto⟩ fop = some (.one (.yl 1000000)))
  (ha : evL ⟨fr,sto⟩ args.toList = some avs) (hai : da s avs = true) (hk : (eT 1000000 o1 && kl o1 && iy fr) = true) (hfl : eH rav = true)
  (h : ac P ⟨w0,σ0,φ0,M,n,rd,mk⟩ ops rest ⟨(d,rav)::fr,o1 ++ s'⟩ K) : ac P ⟨w0,σ0,φ0,M,n,rd,mk⟩ ops (o::rest) ⟨fr,sto⟩ K:=by
 subst hsto
 intro a w σ φ Q hr hQ
 have hk':=hk
 simp only [Bool.and_eq_true] at hk'
 have hfr : RepC σ φ (o1 ++ s) (.yl 1000000) (a.eval fop):=aC hr hf
 generalize hfe : a.eval fop = fv at hfr
 obtain ⟨li,lf,ls,lp,hL⟩:=hlp
 have hl0 : look (o1 ++ s) 1000000 = some (.loop li lf ls lp):=by rw [dK hk'.1.1 (Nat.le_refl _)]; exact hL
 cases hfr with
 | dead hxx _=>simp [bx,bf,hl0] at hxx
 | yl hl hp =>
   rename_i B cap li2 fr2 s2 p2
   obtain ⟨fn,tmps,assign,body,hy,hR⟩:=hY.run w σ φ _ B cap (HInv.pinned hk'.1.1 hs hin hr.inv) hp (nf hk'.1.1 hs hai (gm hr ha))
   refine wpListIn_plain hg fun K' hK=>⟨fun f _=>gR _ f,?_⟩
   rw [jg (by simp) (wc ho hfe hy),Oper.uponIn_round,gK (c:=⟨w0,σ0,φ0,M,n,rd,mk⟩) hrd]
   refine ⟨fun h=>by simp [Fence.wide] at h,hR.mono fun e w' he=>?_⟩
   obtain ⟨v,σ',φ',rfl,hret⟩:=he
   refine hK _ _ (h _ _ σ' (fun i=>if 1000000≤i then φ' i else φ i) _ ?_ hQ)
   have:=hr.callW (dst:=o.dst) (by rw [hdst]; exact hd) hk hs hs' hin' ⟨li,lf,ls,lp,hL⟩ hlp' hfl hret
   rw [hdst] at this ⊢; exact this
end Go.Abs
namespace Go.Abs
open Go
variable {P : Program} {V : Env} {T : Tab} {c : Ctx} {w0 : World} {σ0 : Sig} {φ0 : Pl} {M : Nat→Prop} {n : Nat} {rd : Option Nat} {mk : List Deferred} {ops : Array Oper} {o : Oper} {rest : List Oper} {fr : List (Nat×AV)} {sto : Sto} {K : St→Prop} {st st0 : St} {acc : List Tr}
theorem xt{t : TypeId}{x y : Operand}{a b v : AV}(ho : o.op = .index t x y)(hs : cF V.T st o 0 = none)(hx : ev st x = some a)(hy : ev st y = some b)(h : xu V.T t (some b) (some a) = some v) : aQ V st o 0 = some ⟨v,[],[]⟩:=by
 simp only [aQ,hs,ho,hx,hy,h]
theorem im(hV : EnvOk P V)(id : Nat){d : Nat}{v : AV}{wr : List (Nat×Option AObj)}{nw : List Nat}(hg : o.guard = none)(hdst : o.dst = some d)(hd : Nat.blt d c.n = true)(h : aQ V ⟨fr,sto⟩ o id = some ⟨v,wr,nw⟩)(hid : Nat.blt (id + 1) 1000000 = true)(hf : dE ⟨fr,sto⟩ nw = true)
  (k : ao P c ops st0 rest ⟨(d,v)::fr,cC wr sto⟩ (⟨v,wr,rR ⟨fr,sto⟩ o.op,nw⟩::acc) K) : ao P c ops st0 (o::rest) ⟨fr,sto⟩ acc K :=
 mz hg (mu hV (by rw [hdst]; exact hd) h hid) (by rw [hdst]; exact k)
theorem qx(hV : EnvOk P V){v : AV}{wr : List (Nat×Option AObj)}(hg : o.guard = none)(hdst : o.dst = none)(h : aQ V ⟨fr,sto⟩ o 0 = some ⟨v,wr,[]⟩)
  (k : ao P c ops st0 rest ⟨fr,cC wr sto⟩ (⟨v,wr,rR ⟨fr,sto⟩ o.op,[]⟩::acc) K) : ao P c ops st0 (o::rest) ⟨fr,sto⟩ acc K :=
 mz hg (mu hV (by rw [hdst]; rfl) h rfl) (by rw [hdst]; exact k)
def OkR(P : Program)(c : Ctx)(bl : Nat)(g : Operand)(ps : Array Nat)(assign body rest : Code)(st : St)(Q : Exit→St→Prop) : Prop :=
 ∀ (a : Act) (w : World) (σ : Sig) (φ : Pl),Rel c st a w σ φ→(Code.block bl (.rangeFunc g ps assign body)).wpIn (fnc c) 0 P
   (Exit.then (rest.wpIn (fnc c) 0 P fun e a' w'=>∃ st' σ' φ',Q e st'∧RelE c e st' a' w' σ' φ') fun e a' w'=>∃ st' σ' φ',Q e st'∧RelE c e st' a' w' σ' φ') a w
def qy(R : St→Prop)(e : Exit)(st : St) : Prop:=e = .normal∧R st
theorem I4{R : St→Prop}(h : R st) : qy R .normal st:=⟨rfl,h⟩
def ul(Q : Exit→St→Prop)(e : Exit)(st : St) : Prop:=e = .ret∧Q .ret st
theorem I5{Q : Exit→St→Prop}(h : Q .ret st) : ul Q .ret st:=⟨rfl,h⟩
theorem DF{bl : Nat}{g : Operand}{ps : Array Nat}{x assign body rest : Code}{Q : Exit→St→Prop}(h : OkC P c x st (qy fun st1=>OkR P c bl g ps assign body rest st1 Q)) : OkC P c (.seq (.seq x (.block bl (.rangeFunc g ps assign body))) rest) st Q:=by
 intro a w σ φ hr
 refine wpIn_seq (wpIn_seq (wpIn_mono (h a w σ φ hr) ?_))
 rintro e a1 w1 ⟨st1,σ1,φ1,⟨rfl,hR⟩,hre⟩
 exact hR a1 w1 σ1 φ1 (hre.rel (by simp))
theorem pm{g : Operand}{ps : Array Nat}{assign body rest : Code}{bl : Nat}{Q : Exit→St→Prop}{f : FuncId}{caps : List D}{os : List (Nat×AObj)}{rav : AV}{liR : LI}{frR : List (Nat×AV)}{s' : LoopState}{p' : Option Code}{rs : Sto}(ids : List Nat)(idl : Nat)
  (hrd : c.rd = none) (hmk : c.mks = []) (hg : ev st g = some (.one (.d (.fn f caps)))) (hos : ig st.sto ids = some os)
  (hC : CallA P f ((.one (.yl 1000000))::caps.map fun x=>.one (.d x)) ((1000000,.loop ⟨c.n,ps,assign,body⟩ (cP (inv 1000000 (idl::ids)) (bS ids st.fr [])) .ready none)::gp (inv 1000000 (idl::ids)) os) rav ((1000000,.loop liR frR s' p')::rs))
  (hb : pn st ids idl ⟨c.n,ps,assign,body⟩ os caps rav 1000000 liR frR s' p' rs = true)
  (h1 : p' = none→∀ c1,xv c c1→OkC P c1 rest ⟨st.fr,jc (idl + 1) (bA 1000000 (idl::ids)) rs st.sto⟩ (ul Q))
  (h2 : p' = some .ret→Q .ret ⟨st.fr,jc (idl + 1) (bA 1000000 (idl::ids)) rs st.sto⟩) : OkR P c bl g ps assign body rest st Q:=by
 intro a w σ φ hr
 unfold pn at hb
 simp only [Bool.and_eq_true,Bool.not_eq_true'] at hb
 obtain ⟨⟨⟨⟨⟨⟨⟨⟨hj,hall⟩,hni⟩,hcm⟩,hk⟩,hi⟩,hfr⟩,hbu⟩,hp⟩:=hb
 have hren : cP (rn (idl + 1) (bA 1000000 (idl::ids))) (cP (inv 1000000 (idl::ids)) (bS ids st.fr [])) = bS ids st.fr [] :=
  ms fun i hi=>pj (by simp only [bY,Bool.or_eq_true]; exact .inr (jE i hi))
 have hne : ∀ i∈ids,i≠idl:=by
  intro i hmem e
  rw [e] at hmem
  rw [memL_iff.2 hmem] at hni; cases hni
 have e : cP (rn (idl + 1) ((1000000,idl)::bA 1000001 ids)) (cP (inv 1000000 (idl::ids)) (bS ids st.fr [])) = bS ids st.fr []:=hren
 have hX:=vE (P:=P) (c:=c) (st:=st) (g:=g) (ps:=ps) (assign:=assign) (body:=body) (k:=idl + 1) (idl:=idl) (ρ:=bA 1000001 ids) hrd hmk hg hC (fun s v hv=>by rw [e] at hv; exact (gj hv).2)
  (jy (s:=(idl,_)::st.sto) ((jx (s:=st.sto) fun i hi=>aN (hne i hi)).trans hos) hall)
  (iJ (s:=(idl,.loop ⟨c.n,ps,assign,body⟩ (bS ids st.fr []) .ready none)::st.sto) (fun j i _=>by
   show look ((idl,AObj.loop _ _ _ _)::st.sto) i = _
   rw [e]) hcm) hk (by
   rw [e]
   simp only [Bool.and_eq_true,Bool.not_eq_true']
   exact hi) (fun i h1 h2=>ea hfr i (rng_mem.2 ⟨h1,h2⟩)) (by rintro rfl; cases hbu) (by
   unfold pOk at hp
   split at hp
   ·exact .inl rfl
   ·exact .inr rfl
   ·cases hp) a w σ φ hr
 refine wpIn_block (wpIn_mono hX ?_)
 rintro x a' w' (⟨hp0,rfl,c1,σ',φ',hg1,hr1⟩ | ⟨hp0,rfl,σ',φ',hr1⟩)
 ·have hc:=h1 hp0 c1 hg1 a' w' σ' φ' hr1
  have hf : fnc c1 = fnc c:=by rw [gK hg1.2.1,gK hrd]
  rw [hf] at hc
  refine wpIn_mono hc ?_
  rintro x a2 w2 ⟨s2,σ2,φ2,⟨rfl,hq⟩,hre⟩
  refine ⟨s2,σ2,φ2,hq,?_⟩
  rcases hre with h5 | ⟨_,r,_,_,_,h5⟩
  ·exact hg1.2.2.2 _ _ _ _ _ h5
  ·exact absurd h5.defers.symm hg1.2.2.1
 ·exact ⟨_,σ',φ',h2 hp0,hr1⟩
structure FamW {α : Type} (E : α→Sto) : Prop where
 big : ∀ a,gL (E a)
 ins : ∀ a,bd (E a) (E a) = true
 lp : ∀ a,kM (E a)
 nd : ∀ a,ch (aY (E a)) = true
theorem Aj{α : Type}{l : List (Nat×α)} : ∀ {t : List (Nat×α)},(∀ q∈t,look l q.1 = some q.2)→SubL l t
 | [],_=>trivial
 | (i,x)::t,h=>⟨h _ List.mem_cons_self,Aj fun q hq=>h q (List.mem_cons_of_mem _ hq)⟩
theorem xw : ∀ {s : Sto} {q : Nat×AObj},q∈s→bY q.1 (aY s) = true
 | p::r,q,h=>by
   obtain ⟨i,x⟩:=p
   rcases List.mem_cons.1 h with rfl | h
   ·simp [aY,bY]
   ·simp [aY,bY,xw h]
theorem Ak : ∀ {s : Sto},ch (aY s) = true→∀ q∈s,look s q.1 = some q.2
 | (i,x)::r,h,q,hq=>by
   simp only [aY,ch,Bool.and_eq_true,Bool.not_eq_true'] at h
   rcases List.mem_cons.1 hq with rfl | hq
   ·simp [look]
   ·have hm:=xw hq
    have hne : Nat.beq i q.1 = false:=by
     cases hb : Nat.beq i q.1 with
     | false=>rfl
     | true =>
       have:=Nat.eq_of_beq_eq_true hb
       subst this
       rw [h.1] at hm; cases hm
    simp only [look,hne,cond_false]
    exact Ak h.2 q hq
theorem Fp{o1 s : Sto}(ho : eT 1000000 o1 = true)(hs : gL s)(hn : ch (aY s) = true) : SubL (o1 ++ s) s :=
 Aj fun q hq=>by
  have h:=Ak hn q hq
  rw [dK ho (hs _ _ h)]; exact h
theorem Hx{α β : Type}{E : α→Sto}(hE : FamW E)(g : β→α){body : Code}{Q : Exit→St→Prop}(o1 : Sto)(kept : List (Nat×AV))(hk : SubL fr kept)(L : β→List (Nat×AV))(Inv : β→Prop)(μ : β→Nat)(x0 : β)(hsto : sto = o1 ++ E (g x0))(ho : eT 1000000 o1 = true)(hL : SubL fr (L x0))(h0 : Inv x0)
  (hround : ∀ x,Inv x→OkC P c body ⟨L x ++ kept,o1 ++ E (g x)⟩ (ax (fun st'=>∃ y o2,Inv y∧μ y < μ x∧st'.sto = o2 ++ E (g y)∧eT 1000000 o2 = true∧SubL o2 o1∧SubL st'.fr (L y)∧SubL st'.fr kept) Q)) : OkC P c (.loop body) ⟨fr,sto⟩ Q:=by
 subst hsto
 have hap : ∀ {f a b : List (Nat×AV)},SubL f a→SubL f b→SubL f (a ++ b):=by
  intro f a b h1 h2
  induction a with
  | nil=>exact h2
  | cons p r ih=>exact ⟨h1.1,ih h1.2⟩
 have hdr : ∀ {f : List (Nat×AV)} {o2 s : Sto},gL s→eT 1000000 o2 = true→SubL o2 o1→Imp c ⟨f,o2 ++ s⟩ ⟨f,o1 ++ s⟩:=fun hs h2 h a w σ φ hr=>⟨σ,φ,hr.dropTo fun i e hi=>by
  show look (_ ++ _) i = some e
  rcases Nat.lt_or_ge i 1000000 with h3 | h3
  ·rw [io hs h3] at hi ⊢; exact h.look hi
  ·rw [dK ho h3] at hi; rw [dK h2 h3]; exact hi⟩
 refine bu (st':=⟨L x0 ++ kept,o1 ++ E (g x0)⟩) (i5 (hap hL hk)) ?_
 refine ny (fun n st=>∃ x,Inv x∧n = μ x∧st = ⟨L x ++ kept,o1 ++ E (g x)⟩) (μ x0) ⟨x0,h0,rfl,rfl⟩ ?_
 rintro n st ⟨x,hx,rfl,rfl⟩
 refine je (hround x hx) fun e st h=>?_
 cases e with
 | normal =>
   obtain ⟨y,o2,hy,hlt,hs,h4,h5,h1,h2⟩:=h
   obtain ⟨f,s⟩:=st
   simp only at hs h1 h2
   subst hs
   exact ⟨μ y,_,hlt,⟨y,hy,rfl,rfl⟩,Imp.trans (i5 (hap h1 h2)) (hdr (hE.big (g y)) h4 h5)⟩
 | _=>exact h
def rV(r : Nat→Nat) : List Nat→Bool
 | []=>true
 | i::l=>(!(Nat.ble 1000000 (r i) && Nat.blt (r i) 2000000) || Nat.beq (r i) i) && rV r l
theorem um{r : Nat→Nat} : ∀ {l : List Nat},rV r l = true→∀ {i : Nat},i∈l→Pin (r i)→r i = i
 | j::l,h,i,hi,hb=>by
   simp only [rV,Bool.and_eq_true,Bool.or_eq_true,Bool.not_eq_true'] at h
   rcases List.mem_cons.1 hi with rfl | hi
   ·rcases h.1 with h1 | h1
    ·rw [Nat.ble_eq.mpr hb.1,Nat.blt_eq.mpr hb.2] at h1; cases h1
    ·exact Nat.eq_of_beq_eq_true h1
   ·exact um h.2 hi hb
theorem fz(r : Nat→Nat)(hk : (ch (aY sto) && ch (iE r (aY sto)) && rV r (aY sto) && bd sto sto && iF sto fr) = true) : Imp c ⟨fr,sto⟩ ⟨cP r fr,fC r sto⟩:=by
 intro a w σ φ hr
 simp only [Bool.and_eq_true] at hk
 obtain ⟨⟨⟨⟨h1,h2⟩,h3⟩,h4⟩,h5⟩:=hk
 classical
 let φ' : Pl:=fun t=>if h : ∃ i,i∈aY sto∧r i = t then φ h.choose else φ t
 have hφ : ∀ {i : Nat},i∈aY sto→φ' (r i) = φ i:=by
  intro i hi
  have hex : ∃ j,j∈aY sto∧r j = r i:=⟨i,hi,rfl⟩
  show (if h : ∃ j,j∈aY sto∧r j = r i then φ h.choose else φ (r i)) = φ i
  rw [dif_pos hex]
  have:=hex.choose_spec
  rw [mA h2 this.1 hi this.2]
 have hR : ∀ j o,look sto j = some o→look (fC r sto) (r j) = some (co r o)∧φ' (r j) = φ j:=fun j o hj=>⟨mC h2 hj,hφ (lS hj)⟩
 refine ⟨σ,φ',hr.le,hr.fresh,⟨hr.inv.sig,fun t e ht=>?_,fun t t' e e' p p' ht ht' hne hp hp'=>?_⟩,fun t e p ht hp=>?_,fun s v hv=>?_,hr.defers,hr.size,hr.fra,fun t ht=>?_⟩
 ·obtain ⟨i,o,rfl,hi,rfl⟩:=di h1 ht
  exact wS hR hi (eU h4 hi) (hr.inv.obj _ _ hi)
 ·obtain ⟨i,o,rfl,hi,rfl⟩:=di h1 ht
  obtain ⟨i',o',rfl,hi',rfl⟩:=di h1 ht'
  rw [(hR _ _ hi).2] at hp
  rw [(hR _ _ hi').2] at hp'
  exact hr.inv.inj _ _ _ _ _ _ hi hi' (fun e=>hne (by rw [e])) hp hp'
 ·obtain ⟨i,o,rfl,hi,rfl⟩:=di h1 ht
  rw [(hR _ _ hi).2] at hp
  exact hr.mine _ _ _ hi hp
 ·rw [jF] at hv
  cases hl : look fr s with
  | none=>rw [hl] at hv; cases hv
  | some v0 =>
    rw [hl] at hv; cases hv
    obtain ⟨u,hu,hru⟩:=hr.slot s v0 hl
    exact ⟨u,hu,reV hR (kN h5 hl) hru⟩
 ·show (if h : ∃ j,j∈aY sto∧r j = t then φ h.choose else φ t) = _
  split
  ·rename_i hex
   have hs:=hex.choose_spec
   have:=um h3 hs.1 (by rw [hs.2]; exact ht)
   rw [hs.2] at this
   rw [← this]; exact hr.pin t ht
  ·exact hr.pin t ht
theorem sU{i : Nat} : ∀ {a b : Sto},aM i (a ++ b) = (aM i a || aM i b)
 | [],_=>by simp [aM]
 | p::r,b=>by simp only [List.cons_append,aM,sU (a:=r),Bool.or_assoc]
theorem sV{s t : Sto}(hs : gL s){i : Nat}(hi : i < 1000000) : ∀ {l : Sto},bd s l = true→aM i l = false
 | [],_=>rfl
 | (j,e)::r,h=>by
   simp only [bd,Bool.and_eq_true] at h
   simp only [aM]
   rw [sV (t:=t) hs hi h.2,Bool.or_false]
   cases hm : e.men i with
   | false=>rfl
   | true =>
     obtain ⟨e',he⟩:=gM (rW h.1 i hm)
     have:=hs _ _ he; omega
theorem DG{o1 s : Sto}(hs : gL s)(hin : bd s s = true){id : Nat}(h : (Nat.blt id 1000000 && (!bf o1 id && !bn id fr && !aM id o1)) = true) : (Nat.blt id 1000000 && (!bf (o1 ++ s) id && !bn id fr && !aM id (o1 ++ s))) = true:=by
 simp only [Bool.and_eq_true,Bool.not_eq_true',Nat.blt_eq] at h ⊢
 obtain ⟨h1,⟨h2,h3⟩,h4⟩:=h
 refine ⟨h1,⟨?_,h3⟩,?_⟩
 ·unfold bf at h2 ⊢; rw [io hs h1]; exact h2
 ·rw [sU,h4,sV (t:=s) hs h1 hin]; rfl
theorem I6(o1 : Sto)(id : Nat){s : Sto}(hs : gL s)(hin : bd s s = true){d : Nat}{t : TypeId}{x : Operand}{v : AV}{cs : List AC}(hsto : sto = o1 ++ s)(ho : o.op = .box t x)(hg : o.guard = none)(hdst : o.dst = some d)(hdn : Nat.blt d n = true)(hd : (Nat.blt id 1000000 && (!bf o1 id && !bn id fr && !aM id o1)) = true)
  (hx : ev ⟨fr,sto⟩ x = some v) (hc : (match cellsOf v with | some cs'=>bif b6 id cs' then none else some cs' | none=>none) = some cs)
  (h : ac P ⟨w0,σ0,φ0,M,n,rd,mk⟩ ops rest ⟨(d,.one (.ref id 0))::fr,(id,.box cs)::sto⟩ K) : ac P ⟨w0,σ0,φ0,M,n,rd,mk⟩ ops (o::rest) ⟨fr,sto⟩ K:=by
 subst hsto
 exact wT id ho hg hdst (by rw [hdn,Bool.true_and]; exact DG hs hin hd) hx hc h
theorem Fq(hT : aU P T)(o1 : Sto)(id : Nat){s : Sto}(hs : gL s)(hin : bd s s = true){d : Nat}{t : TypeId}{td : TD}(hsto : sto = o1 ++ s)(ho : o.op = .alloc t)(hg : o.guard = none)(hdst : o.dst = some d)(hdn : Nat.blt d n = true)(hd : (Nat.blt id 1000000 && (!bf o1 id && !bn id fr && !aM id o1)) = true)(ht : look T t = some td)
  (h : ac P ⟨w0,σ0,φ0,M,n,rd,mk⟩ ops rest ⟨(d,.one (.ref id 0))::fr,(id,.box (td.zero.map .d))::sto⟩ K) : ac P ⟨w0,σ0,φ0,M,n,rd,mk⟩ ops (o::rest) ⟨fr,sto⟩ K:=by
 subst hsto
 exact lJ hT id ho hg hdst (by rw [hdn,Bool.true_and]; exact DG hs hin hd) ht h
theorem GZ{s : Sto}(h : kM s) : bf s 1000000 = true:=by
 obtain ⟨li,fr,st,p,h⟩:=h
 simp [bf,h]
theorem po{rs : List ResultVar}{rav rav' : AV}{rsto s : Sto}{e : Exit}{l : List (Bool×List AC)}(o1 : Sto)(he : e = .ret∨e = .normal)(hsto : sto = o1 ++ s)(hl : lT T ⟨fr,sto⟩ rs = some l)(hr : oc l = some rav')(h : rav' = rav∧s = rsto)(ho : eT 1000000 o1 = true)(hs : gL s)(hn : ch (aY s) = true) : aJ T rs rav rsto e ⟨fr,sto⟩:=by
 obtain ⟨h1,rfl⟩:=h
 subst hsto
 exact ⟨he,l,hl,by rw [hr,h1],Fp ho hs hn⟩
def ip(P : Program)(id : Nat)(c : Ctx)(body : Code)(rav : AV)(rsto : Sto)(e : Exit)(st : St) : Prop :=
 e = .normal∧∃ li1 fr1,look st.sto id = some (.loop li1 fr1 .ready none)∧OkC P c body ⟨st.fr,bH id (.loop li1 fr1 .busy none) st.sto⟩ (cx id rav rsto)
theorem Fr{id : Nat}{body : Code}{rav : AV}{rsto : Sto}{li1 : LI}{fr1 : List (Nat×AV)}(hl : look st.sto id = some (.loop li1 fr1 .ready none))(h : OkC P c body ⟨st.fr,bH id (.loop li1 fr1 .busy none) st.sto⟩ (cx id rav rsto)) : ip P id c body rav rsto .normal st:=⟨rfl,_,_,hl,h⟩
theorem fD{id : Nat}{rav : AV}{rsto : Sto}{li : LI}{fr1 : List (Nat×AV)}{p : Option Code}(hl : look st.sto id = some (.loop li fr1 .busy p))(hr : rav = .one (.d (.bool true)))(hs : SubL (bH id (.loop li fr1 .ready none) st.sto) rsto) : cx id rav rsto .normal st :=
 ⟨li,fr1,p,hl,.inl ⟨rfl,hr,hs⟩⟩
theorem nz{id : Nat}{rav : AV}{rsto : Sto}{li : LI}{fr1 : List (Nat×AV)}{p : Option Code}{e : Exit}{j : Code}(hl : look st.sto id = some (.loop li fr1 .busy p))(hj : xx e = some j)(hr : rav = .one (.d (.bool false)))(hs : SubL (bH id (.loop li fr1 .done (some j)) st.sto) rsto) : cx id rav rsto e st :=
 ⟨li,fr1,p,hl,.inr ⟨j,hj,hr,hs⟩⟩
theorem pp{id : Nat}{li : LI}{fr : List (Nat×AV)}{args : List AV}{sto : Sto}{rav : AV}{rsto : Sto}(hid : Pin id)(hl : look sto id = some (.loop li fr .ready none))
  (hps : (iM li.n li.params.toList && Nat.beq li.params.toList.length args.length) = true)
  (h : ∀ (w0 : World) (σ0 : Sig) (φ0 : Pl) (M : Nat→Prop) (B : Nat),OkC P ⟨w0,σ0,φ0,M,li.n,some B,[]⟩ li.assign ⟨fE li.params.toList args fr,sto⟩ (ip P id ⟨w0,σ0,φ0,M,li.n,some B,[]⟩ li.body rav rsto)) : YieldA P id args sto rav rsto:=pq hid hl hps h
end Go.Abs
