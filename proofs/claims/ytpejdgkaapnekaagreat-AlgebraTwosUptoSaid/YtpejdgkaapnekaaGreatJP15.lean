import Derived.LoopNIn
import Derived.Laws.RangeAny
import Derived.Test.YtpejdgkaapnekaaGreatJP14
set_option linter.unusedVariables false
set_option linter.unusedSimpArgs false
set_option maxHeartbeats 1000000
namespace Go.Proofs.YtpejdgkaapnekaaGreat
open Go Go.Abs
attribute [local irreducible] aa OkC aq aC ax aS
set_option maxRecDepth 10000
theorem Fy(ds : List Dim)(at' : List Int) : CallA Tryz.prog 204 [.one (.d (aj ds)),.one (.d (aF at'))] [] (.one (.d (.bool (ofF ds at')))) []:=by
 refine enter ag Tryz.func204 rfl (by decide +kernel) rfl fun hok w0 σ0 φ0 M=>?_
 have h1:=hok.1.sl; have h2:=hok.2.1.sl; clear hok; simp only [List.length_map] at h1 h2; replace h1:=h1.1; replace h2:=h2.1
 repeat' (first|(refine h1H ?_; (refine h0H ?_; refine ab J J J J J J J J (FK _ _ _) J ?_))|refine wG ?_|(refine h1H ?_; (refine h4H ?_; refine bn J J J J (fun h=>?_) (fun h=>?_)))|(refine h5H ?_; first|refine ao J (fun h=>?_) (fun h=>?_)|refine bc 4 J [(0,_),(12,_),(13,_)] (q3Q J J J) (fun (k : Nat)=>[(14,.one (.d (.int .i64 k)))]) (fun (k : Nat)=>k≤ds.length∧at'.length = ds.length∧dK ds at' = dK (ds.drop k) (at'.drop k)) (fun (k : Nat)=>ds.length - k) 0 (q1Q J) ?_ (fun k ⟨hk,hq,hs⟩=>?_))|(show Exists _; refine Exists.intro (k + 1) ⟨?_,?_,wK,(q1Q J),(q3Q J J J)⟩))
 all_goals (try (((simp_all [ofF,dK,av,List.drop_eq_nil_of_le]) <;> exact wL); done))
def aJ : List Int→List Int→Int
 | [],[]=>0
 | [],_::_=>-1
 | _::_,[]=>1
 | x::xs,y::ys=>if x < y then -1 else if y < x then 1 else aJ xs ys
theorem ug{b : List Int} : aJ [] b = if b = [] then 0 else -1:=by cases b <;> simp [aJ]
theorem sk{a : List Int} : aJ a [] = if a = [] then 0 else 1:=by cases a <;> simp [aJ]
theorem xG(a b : List Int) : CallA Tryz.prog 176 [.one (.d (aF a)),.one (.d (aF b))] [] (.one (.d (.int .i64 (aJ a b)))) []:=by
 refine enter ag Tryz.func176 rfl (by decide +kernel) rfl fun hok w0 σ0 φ0 M=>?_
 have h1:=hok.1.sl; have h2:=hok.2.1.sl; clear hok; simp only [List.length_map] at h1 h2; replace h1:=h1.1; replace h2:=h2.1
 repeat' (first|refine wG ?_|(refine h1H ?_; (refine h4H ?_; refine bn J J J J (fun h=>?_) (fun h=>?_)))|(refine h5H ?_; first|refine ao J (fun h=>?_) (fun h=>?_)|refine bc 2 J [(0,_),(1,_)] (q2Q J J) (fun (k : Nat)=>[(5,.one (.d (.int .i64 k)))]) (fun (k : Nat)=>k≤a.length∧k≤b.length∧aJ a b = aJ (a.drop k) (b.drop k)) (fun (k : Nat)=>a.length - k) 0 (q1Q J) ?_ (fun k ⟨hk,hq,hs⟩=>?_))|(show Exists _; refine Exists.intro (k + 1) ⟨?_,?_,wK,(q1Q J),(q2Q J J)⟩))
 all_goals (try (((simp_all [aJ,ug,sk,av,List.drop_eq_nil_of_le]) <;> exact wL); done))
theorem FL(x : Int) : CallA Tryz.prog 246 [.one (.d (.int .i64 x))] [] (.one (.d (.bool false))) []:=by
 refine enter ag Tryz.func246 rfl (by decide +kernel) rfl fun hok w0 σ0 φ0 M=>?_
 repeat' (first|refine wG ?_)
 all_goals (try (((simp_all [av,List.drop_eq_nil_of_le]) <;> exact wL); done))
theorem FM(x y : Int) : CallA Tryz.prog 198 [.one (.d (.int .i64 x)),.one (.d (.int .i64 y))] [] (.one (.d (.int .i64 (if x < y then -1 else if y < x then 1 else 0)))) []:=by
 refine enter ag Tryz.func198 rfl (by decide +kernel) rfl fun hok w0 σ0 φ0 M=>?_
 repeat' (first|(refine h1H ?_; (refine h0H ?_; refine ab J J J J J J J J (FL _) J ?_))|refine wG ?_|(refine h5H ?_; refine ao J (fun h=>?_) (fun h=>?_)))
 all_goals (try (((simp_all [av,List.drop_eq_nil_of_le]) <;> exact wL); done))
theorem FN(a b : List Int) : CallA Tryz.prog 130 [.one (.d (aF a)),.one (.d (aF b))] [] (.one (.d (.int .i64 (aJ a b)))) []:=by
 refine enter ag Tryz.func130 rfl (by decide +kernel) rfl fun hok w0 σ0 φ0 M=>?_
 have h1:=hok.1.sl; have h2:=hok.2.1.sl; clear hok; simp only [List.length_map] at h1 h2; replace h1:=h1.1; replace h2:=h2.1
 repeat' (first|(refine h1H ?_; (refine h0H ?_; refine ab J J J J J J J J (FM _ _) J ?_))|refine wG ?_|(refine h5H ?_; first|refine ao J (fun h=>?_) (fun h=>?_)|refine bc 2 J [(0,_),(1,_),(9,_),(10,_)] (q4Q J J J J) (fun (k : Nat)=>[(11,.one (.d (.int .i64 k)))]) (fun (k : Nat)=>k≤a.length∧k≤b.length∧aJ a b = aJ (a.drop k) (b.drop k)) (fun (k : Nat)=>a.length - k) 0 (q1Q J) ?_ (fun k ⟨hk,hq,hs⟩=>?_))|(show Exists _; refine Exists.intro (k + 1) ⟨?_,?_,wK,(q1Q J),(q4Q J J J J)⟩))
 all_goals (try (((simp_all [aJ,ug,sk,av,List.drop_eq_nil_of_le]) <;> exact wL); done))
theorem c35(a b : List Int) : CallA Tryz.prog 35 [.one (.d (aF a)),.one (.d (aF b))] [] (.one (.d (.int .i64 (aJ a b)))) []:=by
 refine enter ag Tryz.func35 rfl (by decide +kernel) rfl fun hok w0 σ0 φ0 M=>?_
 repeat' (first|(refine h1H ?_; (refine h0H ?_; refine ab J J J J J J J J (FN _ _) J ?_))|refine wG ?_)
 all_goals (try (((simp_all [av,List.drop_eq_nil_of_le]) <;> exact wL); done))
def aD{α : Type}(p : α→Bool) : List α→Nat→Int
 | [],_=>-1
 | x::r,k=>if p x then k else aD p r (k + 1)
theorem FO(l : List Attr)(name : List UInt8) : CallA Tryz.prog 114 [.one (.d (ai l)),.one (.d (.str name))] [] (.one (.d (.int .i64 (aD (fun a : Attr=>a.name == name) l 0)))) []:=by
 refine enter ag Tryz.func114 rfl (by decide +kernel) rfl fun hok w0 σ0 φ0 M=>?_
 have h1:=hok.1.sl; clear hok; simp only [List.length_map] at h1; replace h1:=h1.1
 repeat' (first|refine wG ?_|(refine h5H ?_; first|refine ao J (fun h=>?_) (fun h=>?_)|refine bc 2 J [(0,_),(1,_)] (q2Q J J) (fun (k : Nat)=>[(5,.one (.d (.int .i64 k)))]) (fun (k : Nat)=>k≤l.length∧aD (fun a : Attr=>a.name == name) l 0 = aD (fun a : Attr=>a.name == name) (l.drop k) k) (fun (k : Nat)=>l.length - k) 0 (q1Q J) ?_ (fun k ⟨hk,hs⟩=>?_))|(show Exists _; refine Exists.intro (k + 1) ⟨?_,?_,wK,(q1Q J),(q2Q J J)⟩))
 all_goals (try (((simp_all [aD,av,List.drop_eq_nil_of_le]) <;> exact wL); done))
theorem ml(l : List Dim)(name : List UInt8) : CallA Tryz.prog 118 [.one (.d (aj l)),.one (.d (.str name))] [] (.one (.d (.int .i64 (aD (fun a : Dim=>a.name == name) l 0)))) []:=by
 refine enter ag Tryz.func118 rfl (by decide +kernel) rfl fun hok w0 σ0 φ0 M=>?_
 have h1:=hok.1.sl; clear hok; simp only [List.length_map] at h1; replace h1:=h1.1
 repeat' (first|refine wG ?_|(refine h5H ?_; first|refine ao J (fun h=>?_) (fun h=>?_)|refine bc 2 J [(0,_),(1,_)] (q2Q J J) (fun (k : Nat)=>[(5,.one (.d (.int .i64 k)))]) (fun (k : Nat)=>k≤l.length∧aD (fun a : Dim=>a.name == name) l 0 = aD (fun a : Dim=>a.name == name) (l.drop k) k) (fun (k : Nat)=>l.length - k) 0 (q1Q J) ?_ (fun k ⟨hk,hs⟩=>?_))|(show Exists _; refine Exists.intro (k + 1) ⟨?_,?_,wK,(q1Q J),(q2Q J J)⟩))
 all_goals (try (((simp_all [aD,av,List.drop_eq_nil_of_le]) <;> exact wL); done))
end Go.Proofs.YtpejdgkaapnekaaGreat
namespace Go.Proofs.YtpejdgkaapnekaaGreat
open Go Go.Abs
theorem gx : ∀ a : List Int,aJ a a = 0
 | []=>rfl
 | x::a=>by simp only [aJ,if_neg (Int.lt_irrefl x)]; exact gx a
theorem fp : ∀ a b : List Int,aJ b a = - aJ a b
 | [],[]=>rfl
 | [],_::_=>rfl
 | _::_,[]=>rfl
 | x::a,y::b=>by
   simp only [aJ]
   by_cases h1 : x < y
   ·rw [if_pos h1,if_neg (by omega),if_pos h1]; rfl
   ·by_cases h2 : y < x
    ·rw [if_pos h2,if_neg h1,if_pos h2]
    ·rw [if_neg h1,if_neg h2,if_neg h1,if_neg h2]; exact fp a b
theorem eX : ∀ a b c : List Int,aJ a b≤0→aJ b c≤0→aJ a c≤0∧(aJ a c = 0→aJ a b = 0∧aJ b c = 0)
 | [],[],[],_,_=>by simp [aJ]
 | [],[],_::_,_,_=>by simp [aJ]
 | [],_::_,[],_,h=>by simp [aJ] at h
 | [],_::_,_::_,_,_=>by simp [aJ]
 | _::_,[],_,h,_=>by simp [aJ] at h
 | _::_,_::_,[],_,h=>by simp [aJ] at h
 | x::a,y::b,z::c,h1,h2=>by
   have ih:=eX a b c
   simp only [aJ] at h1 h2 ⊢
   split at h1 <;> split at h2 <;> (try split at h1) <;> (try split at h2) <;> (try omega)
   all_goals first
    | (rw [if_pos (by omega)]; omega)
    | (have:=ih h1 h2
       simp only [if_neg (show ¬ x < y by omega),if_neg (show ¬ y < x by omega),if_neg (show ¬ y < z by omega),if_neg (show ¬ z < y by omega),if_neg (show ¬ x < z by omega),if_neg (show ¬ z < x by omega)]
       exact this)
theorem rj : ∀ a b : List Int,aJ a b = 0→a = b
 | [],[],_=>rfl
 | [],_::_,h=>by simp [aJ] at h
 | _::_,[],h=>by simp [aJ] at h
 | x::a,y::b,h=>by
   simp only [aJ] at h
   split at h
   ·omega
   ·split at h
    ·omega
    ·rw [rj a b h,show x = y by omega]
end Go.Proofs.YtpejdgkaapnekaaGreat
namespace Go.Proofs.YtpejdgkaapnekaaGreat
open Go Go.Abs
attribute [local irreducible] aa OkC aq aC ax aS
set_option maxRecDepth 10000
def du(c : UInt8) : Bool:=decide (32≤c.toNat) && decide (c.toNat≤126)
def gd(k n d : Int)(s : List UInt8) : Bool :=
 if k = 0 then nf d s && (decide (1≤n) && decide (n≤255))
 else if k = 1 then nf d s && (n == 0 || n == 1)
 else if k = 2 then s == [] && (decide (1≤d) && (decide (d≤1099511627776) && (decide (-1099511627776≤n) && (decide (n≤1099511627776) && ((Nat.gcd n.natAbs d.toNat : Nat) : Int) == 1))))
 else if k = 3 then n == 0 && (d == 0 && (decide ((s.length : Int)≤16) && s.all du))
 else false
def mg(k n d : Int)(s : List UInt8)(t : Int) : Bool :=
 gd k n d s && (decide (1≤t) && (decide (t≤4) && (if k = 0 then true else if k = 1 then t == 1 else if k = 2 then t == 3 || t == 2 && d == 1 else t == 4)))
theorem FA(c : Int) : CallA Tryz.prog 281 [.one (.d (.int .i32 c))] [] (.one (.d (.bool (decide (c < 32) || decide (126 < c))))) []:=by
 refine enter ag Tryz.func281 rfl (by decide +kernel) rfl fun hok w0 σ0 φ0 M=>?_
 repeat' (first|refine wG ?_|(refine h1H ?_; (refine h4H ?_; refine bn J J J J (fun h=>?_) (fun h=>?_))))
 all_goals (try (((simp_all [av,List.drop_eq_nil_of_le]) <;> exact wL); done))
end Go.Proofs.YtpejdgkaapnekaaGreat
namespace Go.Abs
open Go
variable {P : Program} {V : Env} {T : Tab} {c : Ctx} {w0 : World} {σ0 : Sig} {φ0 : Pl} {M : Nat→Prop} {n : Nat} {rd : Option Nat} {mk : List Deferred} {ops : Array Oper} {o : Oper} {rest : List Oper} {fr : List (Nat×AV)} {sto : Sto} {K : St→Prop} {st st0 : St}
def cR(met : List (List UInt8)) : List (List D×List D):=met.map fun nm=>([.str nm],[.bool true])
theorem nE{s : List UInt8} : ∀ {met : List (List UInt8)} {i : Nat},(met.contains s = true→∃ j,bP [.str s] (cR met) i = some (j,[.bool true]))∧(met.contains s = false→bP [.str s] (cR met) i = none)
 | [],i=>by simp [cR,bP]
 | x::r,i=>by
   have ih:=nE (s:=s) (met:=r) (i:=i + 1)
   simp only [cR,List.map_cons,bP,bX,eqD,Bool.and_true,List.contains_cons] at ih ⊢
   cases hb : (s == x) with
   | true=>simp
   | false=>simpa [hb] using ih
theorem uN{s : List UInt8} : ∀ {met : List (List UInt8)},met.contains s = false→eL [.str s] [.bool true] (cR met) = cR (met ++ [s])
 | [],_=>rfl
 | x::r,h=>by
   simp only [List.contains_cons,Bool.or_eq_false_iff] at h
   have ih:=uN (s:=s) (met:=r) h.2
   simp only [cR,List.map_cons,eL,bX,eqD,Bool.and_true,List.cons_append,h.1,cond_false] at ih ⊢
   rw [ih]
theorem lk : ∀ {met : List (List UInt8)},dW [.str] (cR met) = true
 | []=>rfl
 | x::r=>by
   have ih:=lk (met:=r)
   simp only [cR,List.map_cons,dW,eh,xr,Bool.and_true,Bool.true_and] at ih ⊢
   exact ih
theorem zR(hV : EnvOk P V){d t id : Nat}{m : MTy}{x y : Operand}{s : List UInt8}{met : List (List UInt8)}(ho : o.op = .lookup t x y false)(hg : o.guard = none)(hdst : o.dst = some d)(hd : Nat.blt d n = true)
  (hm : look V.M t = some m) (hms : m.ks = [.str]) (hk : m.kg = false) (hv : m.vg = false) (hz : m.z = [.bool false])
  (hx : ev ⟨fr,sto⟩ x = some (.one (.mapr id))) (hl : look sto id = some (.map false false (cR met))) (hy : ev ⟨fr,sto⟩ y = some (.one (.d (.str s))))
  (h : aa P ⟨w0,σ0,φ0,M,n,rd,mk⟩ ops rest ⟨(d,.one (.d (.bool (met.contains s))))::fr,sto⟩ K) : aa P ⟨w0,σ0,φ0,M,n,rd,mk⟩ ops (o::rest) ⟨fr,sto⟩ K:=by
 refine nF (hV.M t m hm) ho hg (by rw [hdst]; exact hd) hx (es:=cR met) (by rw [hl,hk,hv]) hy (kd:=[.str s]) (by rw [hk]; rfl) (by rw [hms]; rfl) (by rw [hms]; exact lk) (v:=.one (.d (.bool (met.contains s)))) ?_ (by rw [hdst]; exact h)
 cases hb : met.contains s with
 | true =>
   obtain ⟨j,hj⟩:=(nE (i:=0)).1 hb
   simp only [kJ,hj,hv,nG]; rfl
 | false =>
   simp only [kJ,(nE (i:=0)).2 hb,hv,hz,nG]; rfl
theorem BD(hV : EnvOk P V){t id : Nat}{m : MTy}{x y z : Operand}{s : List UInt8}{met : List (List UInt8)}(ho : o.op = .mapUpdate t x y z)(hg : o.guard = none)(hdst : o.dst = none)
  (hm : look V.M t = some m) (hms : m.ks = [.str]) (hk : m.kg = false) (hv : m.vg = false)
  (hx : ev ⟨fr,sto⟩ x = some (.one (.mapr id))) (hl : look sto id = some (.map false false (cR met))) (hy : ev ⟨fr,sto⟩ y = some (.one (.d (.str s)))) (hz : ev ⟨fr,sto⟩ z = some (.one (.d (.bool true)))) (hnot : met.contains s = false)
  (h : aa P ⟨w0,σ0,φ0,M,n,rd,mk⟩ ops rest ⟨fr,cg id (.map false false (cR (met ++ [s]))) sto⟩ K) : aa P ⟨w0,σ0,φ0,M,n,rd,mk⟩ ops (o::rest) ⟨fr,sto⟩ K:=by
 refine kK (hV.M t m hm) ho hg hdst hx (es:=cR met) (by rw [hl,hk,hv]) hy (kd:=[.str s]) (by rw [hk]; rfl) (by rw [hms]; rfl) (by rw [hms]; exact lk) hz (vd:=[.bool true]) (by rw [hv]; rfl) ?_
 rw [uN hnot,hk,hv]
 exact h
theorem dw(k : Nat)(ρ : List (Nat×Nat)){d : Nat}{fop : Operand}{args : Array Operand}{ats : Array TypeId}{f : FuncId}{cargs : List AV}{cs rs : Sto}{rav rav' : AV}{sto' : Sto}(hC : CallA P f cargs cs rav rs)
  (ho : o.op = .call { callee:=.value fop,args:=args,argTypes:=ats }) (hg : o.guard = none) (hdst : o.dst = some d) (hd : Nat.blt d n = true) (hf : ev ⟨fr,sto⟩ fop = some (.one (.d (.fn f []))))
  (ha : evL ⟨fr,sto⟩ args.toList = some (c6 (rn k ρ) cargs)) (hpass : Pass ⟨fr,sto⟩ (rn k ρ) ρ cs) (hcomp : CompatL ⟨fr,sto⟩ (rn k ρ) ρ rs)
  (hk : (eT ρ && gP ρ && fL cs ρ && fu ρ && cA ρ rs && fM cs (cargs ++ []) && bt cs cs && dp rs rav && bt rs rs && Nat.ble (k + 16) 1000000) = true) (hfresh : jK k ⟨fr,sto⟩ = true)
  (hr : dF (rn k ρ) rav = rav') (hs : dg (rn k ρ) (eF ρ sto) rs = sto')
  (h : aa P ⟨w0,σ0,φ0,M,n,rd,mk⟩ ops rest ⟨(d,rav')::fr,sto'⟩ K) : aa P ⟨w0,σ0,φ0,M,n,rd,mk⟩ ops (o::rest) ⟨fr,sto⟩ K:=by
 subst hr; subst hs
 exact kX k ρ ho hg (by rw [hdst]; exact hd) hf ha (caps:=[]) (by simpa using hC) hpass hcomp hk (mh hfresh) (by rw [hdst]; exact h)
theorem dJ{α : Type}{body : Code}{Q : Exit→St→Prop}(rg : Nat)(hrg : gr body = rg)(kept : List (Nat×AV))(hk : SubL fr kept)(L : α→List (Nat×AV))(S : α→Sto)(Inv : α→Prop)(μ : α→Nat)(x0 : α)(hL : SubL fr (L x0))(hS : SubL sto (S x0))(h0 : Inv x0)
  (hround : ∀ x,Inv x→OkC P c body ⟨L x ++ kept,S x⟩ (aC (fun st'=>∃ y,Inv y∧μ y < μ x∧SubL st'.sto (S y)∧SubL st'.fr (L y)∧SubL st'.fr kept) Q)) : OkC P c (.loop body) ⟨fr,sto⟩ Q:=by
 have hap : ∀ {f a b : List (Nat×AV)},SubL f a→SubL f b→SubL f (a ++ b):=by
  intro f a b h1 h2
  induction a with
  | nil=>exact h2
  | cons p r ih=>exact ⟨h1.1,ih h1.2⟩
 have hdr : ∀ {f : List (Nat×AV)} {s s' : Sto},SubL s s'→Imp c ⟨f,s⟩ ⟨f,s'⟩:=fun h a w σ φ hr=>⟨σ,φ,hr.dropTo fun i e hi=>h.look hi⟩
 refine bm (st':=⟨L x0 ++ kept,S x0⟩) (Imp.trans (j7 (hap hL hk)) (hdr hS)) ?_
 refine nY (fun n st=>∃ x,Inv x∧n = μ x∧st = ⟨L x ++ kept,S x⟩) (μ x0) ⟨x0,h0,rfl,rfl⟩ ?_
 rintro n st ⟨x,hx,rfl,rfl⟩
 refine iJ (hround x hx) fun e st h=>?_
 cases e with
 | normal =>
   obtain ⟨y,hy,hlt,hs,h1,h2⟩:=h
   obtain ⟨f,s⟩:=st
   simp only at hs h1 h2
   exact ⟨μ y,_,hlt,⟨y,hy,rfl,rfl⟩,Imp.trans (j7 (hap h1 h2)) (hdr hs)⟩
 | _=>exact h
theorem qx{t ty : TypeId}{x y : Operand}{k k' : IntKind}{a b : Int}(ho : o.op = .binOp .rem t x y ty)
  (hx : ev st x = some (.one (.d (.int k a)))) (hy : ev st y = some (.one (.d (.int k' b)))) (hk : kEq k k' = true) (ha : 0≤a) (h0 : 0 < b) : aM V st o 0 = some ⟨.one (.d (.int k (a % b))),[],[]⟩:=by
 rw [← Int.tmod_eq_emod_of_nonneg ha]
 exact sB ho hx hy hk (by omega)
theorem jC{t ty : TypeId}{x y : Operand}{k k' : IntKind}{a b : Int}(ho : o.op = .binOp .quo t x y ty)
  (hx : ev st x = some (.one (.d (.int k a)))) (hy : ev st y = some (.one (.d (.int k' b)))) (hk : kEq k k' = true) (ha : 0≤a) (h0 : 0 < b) (hz : k.wrap (a / b) = a / b) : aM V st o 0 = some ⟨.one (.d (.int k (a / b))),[],[]⟩:=by
 refine zS ho hx hy hk (by omega) ?_
 rw [Int.tdiv_eq_ediv_of_nonneg ha]
 exact hz
theorem br{dl : List Nat}{ss : St}(h : sealL st dl = some ss) : Imp c st ss:=fun a w σ φ hr=>by
 obtain ⟨σs,_,h3,_⟩:=Rel.sealL h hr
 exact ⟨σs,φ,h3⟩
theorem bh(k : Nat){d : Nat}{fop : Operand}{args : Array Operand}{ats : Array TypeId}{f : FuncId}{caps : List D}{avs avs' : List AV}{rav rav' : AV}
  (ho : o.op = .call { callee:=.value fop,args:=args,argTypes:=ats }) (hg : o.guard = none) (hdst : o.dst = some d) (hd : Nat.blt d n = true) (hf : ev ⟨fr,sto⟩ fop = some (.one (.d (.fn f caps))))
  (ha : evL ⟨fr,sto⟩ args.toList = some avs) (hD : cm avs = true) (hap : (avs ++ caps.map fun x=>.one (.d x)) = avs') (hC : CallA P f avs' [] rav [])
  (hk : (cA [] [] && Nat.ble (k + 16) 1000000 && dp [] rav && bt [] []) = true) (hfresh : jK k ⟨fr,sto⟩ = true) (hr : dF (rn k []) rav = rav')
  (h : aa P ⟨w0,σ0,φ0,M,n,rd,mk⟩ ops rest ⟨(d,rav')::fr,sto⟩ K) : aa P ⟨w0,σ0,φ0,M,n,rd,mk⟩ ops (o::rest) ⟨fr,sto⟩ K:=by
 subst hap; subst hr
 exact ya k ho hg (by rw [hdst]; exact hd) hf ha hD hC hk (mh hfresh) (by rw [hdst]; exact h)
theorem di(k : Nat){ops : Array Oper}{acc : List Tr}{d : Nat}{fop : Operand}{args : Array Operand}{ats : Array TypeId}{f : FuncId}{caps : List D}{avs avs' : List AV}{rav rav' : AV}
  (ho : o.op = .call { callee:=.value fop,args:=args,argTypes:=ats }) (hg : o.guard = none) (hdst : o.dst = some d) (hd : Nat.blt d c.n = true) (hf : ev ⟨fr,sto⟩ fop = some (.one (.d (.fn f caps))))
  (ha : evL ⟨fr,sto⟩ args.toList = some avs) (hD : cm avs = true) (hap : (avs ++ caps.map fun x=>.one (.d x)) = avs') (hC : CallA P f avs' [] rav [])
  (hk : (cA [] [] && Nat.ble (k + 16) 1000000 && dp [] rav && bt [] []) = true) (hr : dF (rn k []) rav = rav')
  (h : aq P c ops st0 rest ⟨(d,rav')::fr,sto⟩ (jW k [] [] rav []::acc) K) : aq P c ops st0 (o::rest) ⟨fr,sto⟩ acc K:=by
 subst hap; subst hr
 refine nZ hg (sw k ho (by rw [hdst]; exact hd) hf ha hD hC hk) ?_
 rw [hdst]; exact h
def pH(P : Program)(c : Ctx)(body : Code)(Q : Exit→St→Prop) : Nat→St→Prop
 | 0,_=>False
 | m + 1,st=>OkC P c body st (aC (fun st'=>pH P c body Q m st') Q)
theorem sy{body : Code}{Q : Exit→St→Prop}(rg : Nat)(hrg : gr body = rg)(m : Nat)(h : pH P c body Q m st) : OkC P c (.loop body) st Q:=by
 intro a w σ φ hr
 refine wpIn_loop_rounds m ?_
 have key : ∀ m st a w σ φ,pH P c body Q m st→Rel c st a w σ φ→Code.roundsIn (fnc c) 0 P body (fun e a' w'=>∃ st' σ' φ',Q e st'∧RelE c e st' a' w' σ' φ') m a w:=by
  intro m
  induction m with
  | zero=>intro st a w σ φ h; exact h.elim
  | succ m ih =>
    intro st a w σ φ h hr
    rw [roundsIn_succ]
    refine wpIn_mono (h a w σ φ hr) fun e a' w' ⟨st',σ',φ',h1,h2⟩=>?_
    cases e with
    | normal=>exact ih st' a' w' σ' φ' h1 (h2.rel (by simp))
    | _=>exact ⟨st',σ',φ',h1,h2⟩
 exact key m st a w σ φ h hr
theorem gX(hV : EnvOk P V)(id : Nat){d : Nat}{v : AV}{wr : List (Nat×Option AObj)}{nw : List Nat}(hg : o.guard = none)(hdst : o.dst = some d)(hd : Nat.blt d n = true)(h : aM V ⟨fr,sto⟩ o id = some ⟨v,wr,nw⟩)(hid : Nat.blt (id + 1) 1000000 = true)(hf : dj ⟨fr,sto⟩ nw = true)
  (hk : aa P ⟨w0,σ0,φ0,M,n,rd,mk⟩ ops rest ⟨(d,v)::fr,cn wr sto⟩ K) : aa P ⟨w0,σ0,φ0,M,n,rd,mk⟩ ops (o::rest) ⟨fr,sto⟩ K:=by
 have:=mE (c:=⟨w0,σ0,φ0,M,n,rd,mk⟩) hV (o:=o) (by rw [hdst]; exact hd) h hid (ef hf) ops rest K (by rw [hdst]; exact hk)
 rwa [wP hg] at this
theorem si{T : Tab}{rs : List ResultVar}{rav rav' : AV}{rsto : Sto}{e : Exit}{st : St}{l : List (Bool×List AC)}(he : e = .ret∨e = .normal)(hl : ll T st rs = some l)(hr : oh l = some rav')(h : rav' = rav)(hs : SubL st.sto rsto) : aS T rs rav rsto e st :=
 ⟨he,l,hl,by rw [hr,h],hs⟩
end Go.Abs
namespace Go.Abs
open Go
variable {P : Program} {V : Env} {T : Tab} {c : Ctx} {w0 : World} {σ0 : Sig} {φ0 : Pl} {M : Nat→Prop} {n : Nat} {rd : Option Nat} {mk : List Deferred} {ops : Array Oper} {o : Oper} {rest : List Oper} {fr : List (Nat×AV)} {sto : Sto} {K : St→Prop} {st st0 : St} {acc : List Tr}
variable {σ σ' : Sig} {φ φ' : Pl} {w w' : World}
theorem oN{α : Type} : ∀ {a b : List (Nat×α)} {i : Nat},look (a ++ b) i = match look a i with | some v=>some v | none=>look b i
 | [],_,_=>rfl
 | (j,x)::r,b,i=>by
   simp only [List.cons_append,look]
   cases Nat.beq j i with
   | true=>rfl
   | false=>simp only [cond_false]; exact oN
def DL(s : Sto) : Prop:=∀ i e,look s i = some e→1000000≤i
theorem mC{o1 s : Sto}(ho : nz 1000000 o1 = true){i : Nat}(hi : 1000000≤i) : look (o1 ++ s) i = look s i:=by
 rw [oN]
 cases hl : look o1 i with
 | none=>rfl
 | some e=>have:=oO ho hl; omega
theorem RepC.mv{x : AC}{v : Value}{s s2 : Sto}(h : ∀ i,x.men i = true→look s2 i = look s i∧φ' i = φ i)(hr : RepC σ φ s x v) : RepC σ φ' s2 x v:=by
 have hk : ∀ i,x.men i = true→aZ s2 i = aZ s i:=fun i hi=>by unfold aZ; rw [(h i hi).1]
 cases hr with
 | d h1=>exact .d h1
 | junk h1=>exact .junk h1
 | dead hx h1 =>
   refine .dead ?_ h1
   cases x <;> simp only [bu] at hx ⊢ <;> first | exact hx | (rw [hk _ (Nat.beq_refl _)]; exact hx)
 | ownNil hl hp=>have:=h _ (Nat.beq_refl _); exact .ownNil (this.1.trans hl) (this.2.trans hp)
 | own hl hn hp=>have:=h _ (Nat.beq_refl _); exact .own (this.1.trans hl) hn (this.2.trans hp)
 | sub hl hn hc hA =>
   have:=h _ (Nat.beq_refl _)
   refine .sub (this.1.trans hl) hn hc fun h0=>?_
   obtain ⟨B,cap,h1,h2⟩:=hA h0
   exact ⟨B,cap,this.2.trans h1,h2⟩
 | ref hl hp=>have:=h _ (Nat.beq_refl _); exact .ref (this.1.trans hl) (this.2.trans hp)
 | rref hl hp=>have:=h _ (Nat.beq_refl _); exact .rref (this.1.trans hl) (this.2.trans hp)
 | yl hl hp=>have:=h _ (Nat.beq_refl _); exact .yl (this.1.trans hl) (this.2.trans hp)
 | mapr hl hp=>have:=h _ (Nat.beq_refl _); exact .mapr (this.1.trans hl) (this.2.trans hp)
 | bsl hl hp=>have:=h _ (Nat.beq_refl _); exact .bsl (this.1.trans hl) (this.2.trans hp)
theorem uG{x : AC}{s : Sto}(h : bu s x = true) : ∀ i,x.men i = true→aZ s i = true:=by
 intro i hi
 cases x <;> simp only [AC.men,Bool.false_eq_true] at hi <;> (have:=Nat.eq_of_beq_eq_true hi; subst this; exact h)
theorem kF : ∀ {l : List AC} {s : Sto},gn s l = true→∀ i,cv i l = true→aZ s i = true
 | [],_,_,_,h=>by simp [cv] at h
 | x::r,s,h,i,hi=>by
   simp only [gn,Bool.and_eq_true] at h
   simp only [cv,Bool.or_eq_true] at hi
   rcases hi with hi | hi
   ·exact uG h.1 i hi
   ·exact kF h.2 i hi
theorem uH : ∀ {l : List (Bool×List AC)} {s : Sto},ru s l = true→∀ i,fh i l = true→aZ s i = true
 | [],_,_,_,h=>by simp [fh] at h
 | x::r,s,h,i,hi=>by
   simp only [ru,Bool.and_eq_true] at h
   simp only [fh,Bool.or_eq_true] at hi
   rcases hi with hi | hi
   ·exact kF h.1 i hi
   ·exact uH h.2 i hi
theorem BB{x : AV}{s : Sto}(h : dp s x = true) : ∀ i,x.men i = true→aZ s i = true:=by
 intro i hi
 cases x with
 | one x=>exact uG h i hi
 | agg cs=>exact kF h i hi
 | tup ts=>exact uH h i hi
 | any=>simp [AV.men] at hi
theorem uI : ∀ {l : List (Nat×AV)} {s : Sto},kY s l = true→∀ i,aT i l = true→aZ s i = true
 | [],_,_,_,h=>by simp [aT] at h
 | x::r,s,h,i,hi=>by
   simp only [kY,Bool.and_eq_true] at h
   simp only [aT,Bool.or_eq_true] at hi
   rcases hi with hi | hi
   ·exact BB h.1 i hi
   ·exact uI h.2 i hi
theorem nA{s s2 : Sto} : ∀ {l : List AC} {vs : List Value},(∀ i,cv i l = true→look s2 i = look s i∧φ' i = φ i)→All2 (RepC σ φ s) l vs→All2 (RepC σ φ' s2) l vs
 | [],[],_,_=>trivial
 | x::r,v::vs,h,ha=>⟨RepC.mv (fun i hi=>h i (by simp [cv,hi])) ha.1,nA (fun i hi=>h i (by simp [cv,hi])) ha.2⟩
 | [],_::_,_,ha=>ha.elim
 | _::_,[],_,ha=>ha.elim
theorem CW{s s2 : Sto}{t : Bool×List AC}{v : Value}(h : ∀ i,cv i t.2 = true→look s2 i = look s i∧φ' i = φ i)(hr : RepT σ φ s t v) : RepT σ φ' s2 t v:=by
 obtain ⟨b,cs⟩:=t
 cases b with
 | true=>obtain ⟨vs,rfl,h1⟩:=hr; exact ⟨vs,rfl,nA h h1⟩
 | false=>exact nA h hr
theorem Co{s s2 : Sto} : ∀ {l : List (Bool×List AC)} {vs : List Value},(∀ i,fh i l = true→look s2 i = look s i∧φ' i = φ i)→All2 (RepT σ φ s) l vs→All2 (RepT σ φ' s2) l vs
 | [],[],_,_=>trivial
 | x::r,v::vs,h,ha=>⟨CW (fun i hi=>h i (by simp [fh,hi])) ha.1,Co (fun i hi=>h i (by simp [fh,hi])) ha.2⟩
 | [],_::_,_,ha=>ha.elim
 | _::_,[],_,ha=>ha.elim
theorem RepV.mv{x : AV}{v : Value}{s s2 : Sto}(h : ∀ i,x.men i = true→look s2 i = look s i∧φ' i = φ i)(hr : RepV σ φ s x v) : RepV σ φ' s2 x v:=by
 cases x with
 | one x=>exact RepC.mv h hr
 | agg cs=>obtain ⟨vs,rfl,h1⟩:=hr; exact ⟨vs,rfl,nA h h1⟩
 | tup ts=>obtain ⟨vs,rfl,h1⟩:=hr; exact ⟨vs,rfl,Co h h1⟩
 | any=>trivial
theorem BC{e : AObj}{s : Sto}(h : xY s e = true) : ∀ i,e.men i = true→aZ s i = true:=by
 intro i hi
 cases e with
 | box cs=>exact kF h i hi
 | loop li fr st p=>exact uI h i hi
 | _=>simp [AObj.men] at hi
theorem qt : ∀ {fr : List (Nat×AV)} {s : Nat} {v : AV} {i : Nat},look fr s = some v→v.men i = true→aT i fr = true
  | [],_,_,_,h,_=>by simp [look] at h
  | (t,x)::r,s,v,i,h,hi=>by
    rcases ae h with ⟨_,rfl⟩ | ⟨_,h⟩
    ·simp [aT,hi]
    ·simp only [aT,qt h hi,Bool.or_true]
theorem ObjRep.mv{id : Nat}{e : AObj}{s s2 : Sto}(h : ∀ i,e.men i = true→look s2 i = look s i∧φ' i = φ i)(hφ : φ' id = φ id)(hr : ObjRep σ φ s w id e) : ObjRep σ φ' s2 w id e:=by
 cases e with
 | box cs =>
   obtain ⟨B,c,vs,t,h1,h2,h3,h4⟩:=hr
   exact ⟨B,c,vs,t,hφ.trans h1,h2,nA h h3,h4⟩
 | row k b xs =>
   rcases hr with ⟨h1,h2⟩ | ⟨B,cap,arr,t,vs,h1,h2⟩
   ·exact .inl ⟨h1,hφ.trans h2⟩
   ·exact .inr ⟨B,cap,arr,t,vs,hφ.trans h1,h2⟩
 | map kg vg es =>
   obtain ⟨B,c,ents,h1,h2⟩:=hr
   exact ⟨B,c,ents,hφ.trans h1,h2⟩
 | loop li fr st p =>
   obtain ⟨B,c,r,h1,h2,h3,h4,h5⟩:=hr
   refine ⟨B,c,r,hφ.trans h1,h2,h3,fun s v hv=>?_,h5⟩
   obtain ⟨u,hu,hru⟩:=h4 s v hv
   refine ⟨u,hu,RepV.mv (fun i hi=>h i ?_) hru⟩
   exact qt hv hi
theorem HInv.pinned{o1 s : Sto}(ho : nz 1000000 o1 = true)(hs : DL s)(hin : bt s s = true)(h : HInv σ φ (o1 ++ s) w) : HInv σ φ s w:=by
 have hl : ∀ {i : Nat},aZ s i = true→look s i = look (o1 ++ s) i:=fun {i} hi=>by
  obtain ⟨e,he⟩:=kH hi
  rw [mC ho (hs _ _ he)]
 refine ⟨h.sig,fun i e hi=>?_,fun i i' e e' p p' hi hi'=>?_⟩
 ·refine ObjRep.mv (fun j hj=>⟨hl (BC (fR hin hi) j hj),rfl⟩) rfl (h.obj i e ?_)
  rw [mC ho (hs _ _ hi)]; exact hi
 ·exact h.inj _ _ _ _ _ _ (by rw [mC ho (hs _ _ hi)]; exact hi) (by rw [mC ho (hs _ _ hi')]; exact hi')
def DM(s : Sto) : Prop:=∃ li fr st p,look s 1000000 = some (.loop li fr st p)
end Go.Abs
namespace Go.Abs
open Go
variable {P : Program} {V : Env} {T : Tab} {c : Ctx} {w0 : World} {σ0 : Sig} {φ0 : Pl} {M : Nat→Prop} {n : Nat} {rd : Option Nat} {mk : List Deferred} {ops : Array Oper} {o : Oper} {rest : List Oper} {fr : List (Nat×AV)} {sto : Sto} {K : St→Prop} {st st0 : St} {acc : List Tr}
theorem dB(hV : EnvOk P V)(id : Nat){d : Nat}{v : AV}{wr : List (Nat×Option AObj)}{nw : List Nat}(hg : o.guard = none)(hdst : o.dst = some d)(hd : Nat.blt d c.n = true)(h : aM V ⟨fr,sto⟩ o id = some ⟨v,wr,nw⟩)(hid : Nat.blt (id + 1) 1000000 = true)(hf : dj ⟨fr,sto⟩ nw = true)
  (k : aq P c ops st0 rest ⟨(d,v)::fr,cn wr sto⟩ (⟨v,wr,o7 ⟨fr,sto⟩ o.op,nw⟩::acc) K) : aq P c ops st0 (o::rest) ⟨fr,sto⟩ acc K :=
 nZ hg (ku hV (by rw [hdst]; exact hd) h hid) (by rw [hdst]; exact k)
theorem fQ(hV : EnvOk P V){v : AV}{wr : List (Nat×Option AObj)}(hg : o.guard = none)(hdst : o.dst = none)(h : aM V ⟨fr,sto⟩ o 0 = some ⟨v,wr,[]⟩)
  (k : aq P c ops st0 rest ⟨fr,cn wr sto⟩ (⟨v,wr,o7 ⟨fr,sto⟩ o.op,[]⟩::acc) K) : aq P c ops st0 (o::rest) ⟨fr,sto⟩ acc K :=
 nZ hg (ku hV (by rw [hdst]; rfl) h rfl) (by rw [hdst]; exact k)
def OkR(P : Program)(c : Ctx)(bl : Nat)(g : Operand)(ps : Array Nat)(assign body rest : Code)(st : St)(Q : Exit→St→Prop) : Prop :=
 ∀ (a : Act) (w : World) (σ : Sig) (φ : Pl),Rel c st a w σ φ→(Code.block bl (.rangeFunc g ps assign body)).wpIn (fnc c) 0 P
   (Exit.then (rest.wpIn (fnc c) 0 P fun e a' w'=>∃ st' σ' φ',Q e st'∧RelE c e st' a' w' σ' φ') fun e a' w'=>∃ st' σ' φ',Q e st'∧RelE c e st' a' w' σ' φ') a w
def xt(R : St→Prop)(e : Exit)(st : St) : Prop:=e = .normal∧R st
theorem DI{R : St→Prop}(h : R st) : xt R .normal st:=⟨rfl,h⟩
def DJ(Q : Exit→St→Prop)(e : Exit)(st : St) : Prop:=e = .ret∧Q .ret st
theorem DK{Q : Exit→St→Prop}(h : Q .ret st) : DJ Q .ret st:=⟨rfl,h⟩
theorem zj{bl : Nat}{g : Operand}{ps : Array Nat}{x assign body rest : Code}{Q : Exit→St→Prop}(h : OkC P c x st (xt fun st1=>OkR P c bl g ps assign body rest st1 Q)) : OkC P c (.seq (.seq x (.block bl (.rangeFunc g ps assign body))) rest) st Q:=by
 intro a w σ φ hr
 refine wpIn_seq (wpIn_seq (wpIn_mono (h a w σ φ hr) ?_))
 rintro e a1 w1 ⟨st1,σ1,φ1,⟨rfl,hR⟩,hre⟩
 exact hR a1 w1 σ1 φ1 (hre.rel (by simp))
structure FamW {α : Type} (E : α→Sto) : Prop where
 big : ∀ a,DL (E a)
 ins : ∀ a,bt (E a) (E a) = true
 lp : ∀ a,DM (E a)
 nd : ∀ a,dM (bq (E a)) = true
def xu(r : Nat→Nat) : List Nat→Bool
 | []=>true
 | i::l=>(!(Nat.ble 1000000 (r i) && Nat.blt (r i) 2000000) || Nat.beq (r i) i) && xu r l
theorem wg{r : Nat→Nat} : ∀ {l : List Nat},xu r l = true→∀ {i : Nat},i∈l→Pin (r i)→r i = i
 | j::l,h,i,hi,hb=>by
   simp only [xu,Bool.and_eq_true,Bool.or_eq_true,Bool.not_eq_true'] at h
   rcases List.mem_cons.1 hi with rfl | hi
   ·rcases h.1 with h1 | h1
    ·rw [Nat.ble_eq.mpr hb.1,Nat.blt_eq.mpr hb.2] at h1; cases h1
    ·exact Nat.eq_of_beq_eq_true h1
   ·exact wg h.2 hi hb
theorem dz(r : Nat→Nat)(hk : (dM (bq sto) && dM (iC r (bq sto)) && xu r (bq sto) && bt sto sto && kY sto fr) = true) : Imp c ⟨fr,sto⟩ ⟨dt r fr,jY r sto⟩:=by
 intro a w σ φ hr
 simp only [Bool.and_eq_true] at hk
 obtain ⟨⟨⟨⟨h1,h2⟩,h3⟩,h4⟩,h5⟩:=hk
 classical
 let φ' : Pl:=fun t=>if h : ∃ i,i∈bq sto∧r i = t then φ h.choose else φ t
 have hφ : ∀ {i : Nat},i∈bq sto→φ' (r i) = φ i:=by
  intro i hi
  have hex : ∃ j,j∈bq sto∧r j = r i:=⟨i,hi,rfl⟩
  show (if h : ∃ j,j∈bq sto∧r j = r i then φ h.choose else φ (r i)) = φ i
  rw [dif_pos hex]
  have:=hex.choose_spec
  rw [mY h2 this.1 hi this.2]
 have hR : ∀ j o,look sto j = some o→look (jY r sto) (r j) = some (cz r o)∧φ' (r j) = φ j:=fun j o hj=>⟨mZ h2 hj,hφ (ma hj)⟩
 refine ⟨σ,φ',hr.le,hr.fresh,⟨hr.inv.sig,fun t e ht=>?_,fun t t' e e' p p' ht ht' hne hp hp'=>?_⟩,fun t e p ht hp=>?_,fun s v hv=>?_,hr.defers,hr.size,hr.fra,fun t ht=>?_⟩
 ·obtain ⟨i,o,rfl,hi,rfl⟩:=ek h1 ht
  exact xv hR hi (fR h4 hi) (hr.inv.obj _ _ hi)
 ·obtain ⟨i,o,rfl,hi,rfl⟩:=ek h1 ht
  obtain ⟨i',o',rfl,hi',rfl⟩:=ek h1 ht'
  rw [(hR _ _ hi).2] at hp
  rw [(hR _ _ hi').2] at hp'
  exact hr.inv.inj _ _ _ _ _ _ hi hi' (fun e=>hne (by rw [e])) hp hp'
 ·obtain ⟨i,o,rfl,hi,rfl⟩:=ek h1 ht
  rw [(hR _ _ hi).2] at hp
  exact hr.mine _ _ _ hi hp
 ·rw [gV] at hv
  cases hl : look fr s with
  | none=>rw [hl] at hv; cases hv
  | some v0 =>
    rw [hl] at hv; cases hv
    obtain ⟨u,hu,hru⟩:=hr.slot s v0 hl
    exact ⟨u,hu,reV hR (jg h5 hl) hru⟩
 ·show (if h : ∃ j,j∈bq sto∧r j = t then φ h.choose else φ t) = _
  split
  ·rename_i hex
   have hs:=hex.choose_spec
   have:=wg h3 hs.1 (by rw [hs.2]; exact ht)
   rw [hs.2] at this
   rw [← this]; exact hr.pin t ht
  ·exact hr.pin t ht
def wh(P : Program)(id : Nat)(c : Ctx)(body : Code)(rav : AV)(rsto : Sto)(e : Exit)(st : St) : Prop :=
 e = .normal∧∃ li1 fr1,look st.sto id = some (.loop li1 fr1 .ready none)∧OkC P c body ⟨st.fr,cg id (.loop li1 fr1 .busy none) st.sto⟩ (pY id rav rsto)
theorem AX{id : Nat}{body : Code}{rav : AV}{rsto : Sto}{li1 : LI}{fr1 : List (Nat×AV)}(hl : look st.sto id = some (.loop li1 fr1 .ready none))(h : OkC P c body ⟨st.fr,cg id (.loop li1 fr1 .busy none) st.sto⟩ (pY id rav rsto)) : wh P id c body rav rsto .normal st:=⟨rfl,_,_,hl,h⟩
end Go.Abs
namespace Go.Abs
open Go
variable {P : Program} {V : Env} {T : Tab} {c : Ctx} {st st0 : St} {σ σ' : Sig} {φ φ' : Pl} {w w' : World}
theorem nk{ops : Array Oper}{o : Oper}{rest : List Oper}{a : Act}{Q : Exit→Act→World→Prop}{u : Value}(hg : o.guard = none)(hrun : (execOp a.eval o).run P w = .ok (.value u) w')(h : wpListIn (fnc c) 0 P ops Q rest (a.put o.dst u) w') : wpListIn (fnc c) 0 P ops Q (o::rest) a w:=by
 refine wpListIn_plain hg fun K' hK=>⟨fun f _=>fD c f,?_⟩
 rw [gE (by simp) hrun]
 exact hK _ _ h
theorem sZ{s : ByteArray}{pos r : Nat}{ty : TypeId}(hh : w.heap[r]? = some (.stringIter s pos))(h : ¬ pos < s.size) : (Instr.next (.pointer (some ⟨r,0,none⟩)) true ty).run P w = .ok (.tuple #[.bool false]) w:=by
 simp [Instr.next,getObj,Sem.run,hh,Result.andThen,h]
theorem ta{s : ByteArray}{pos r : Nat}{ty : TypeId}(hh : w.heap[r]? = some (.stringIter s pos))(h : pos < s.size) : (Instr.next (.pointer (some ⟨r,0,none⟩)) true ty).run P w =
  .ok (.tuple #[.bool true,.int .i64 pos,.int .i32 (Utf8.decode s pos).1]) { w with heap:=w.heap.setIfInBounds r (.stringIter s (pos + (Utf8.decode s pos).2)) }:=by
 simp [Instr.next,getObj,setObj,Sem.run,hh,Result.andThen,h,goInt]
theorem vP(s : ByteArray)(pos : Nat)(h : pos < s.size) : 1≤(Utf8.decode s pos).2:=by
 by_cases ha : (s[pos]'h).toNat < 128
 ·rw [decode_ascii s pos h ha]; exact Nat.le_refl _
 ·exact (decode_high s pos h (by omega)).2
theorem Rel.iter{fr : List (Nat×AV)}{a : Act}{r : Nat}{s : ByteArray}{p q : Nat}(hr : Rel c ⟨fr,[]⟩ a w σ φ)(hh : w.heap[r]? = some (.stringIter s p))(hn : c.w0.heap.size≤r) :
  Rel c ⟨fr,[]⟩ a { w with heap:=w.heap.setIfInBounds r (.stringIter s q) } σ φ:=by
 refine ⟨hr.le,hr.fresh,⟨fun b cs hb=>?_,fun i e hi=>by simp [look] at hi,fun i i' e e' p p' hi=>by simp [look] at hi⟩,fun i e p hi=>by simp [look] at hi,hr.slot,hr.defers,hr.size,⟨hr.fra.os,hr.fra.tape,hr.fra.output,?_,hr.fra.drawn,fun b hb hm=>?_⟩,hr.pin⟩
 ·obtain ⟨t,f,h1⟩:=hr.inv.sig b cs hb
  refine ⟨t,f,?_⟩
  have hne : r≠b:=by rintro rfl; rw [hh] at h1; cases h1
  simp only [Array.getElem?_setIfInBounds_ne hne]; exact h1
 ·simp only [Array.size_setIfInBounds]; exact hr.fra.size
 ·have hne : r≠b:=by omega
  simp only [Array.getElem?_setIfInBounds_ne hne]; exact hr.fra.block b hb hm
def ia(s : List UInt8)(k : Nat) : Int:=((Utf8.decode ⟨s.toArray⟩ k).1 : Nat)
def iN(s : List UInt8)(k : Nat) : Nat:=(Utf8.decode ⟨s.toArray⟩ k).2
theorem qh{s : List UInt8}{k : Nat}{b : UInt8}(h : s[k]? = some b)(hb : b.toNat < 128) : ia s k = b.toNat∧iN s k = 1:=by
 obtain ⟨hl,he⟩:=List.getElem?_eq_some_iff.1 h
 have hk : k < (⟨s.toArray⟩ : ByteArray).size:=by simpa [ByteArray.size] using hl
 have hg : (⟨s.toArray⟩ : ByteArray)[k]'hk = b:=by
  show s.toArray[k]'(by simpa using hl) = b
  simpa using he
 have:=decode_ascii ⟨s.toArray⟩ k hk (by rw [hg]; exact hb)
 unfold ia iN
 rw [this,hg]
 exact ⟨rfl,rfl⟩
theorem zF{s : List UInt8}{k : Nat}{b : UInt8}(h : s[k]? = some b)(hb : ¬ b.toNat < 128) : 128≤ia s k:=by
 obtain ⟨hl,he⟩:=List.getElem?_eq_some_iff.1 h
 have hk : k < (⟨s.toArray⟩ : ByteArray).size:=by simpa [ByteArray.size] using hl
 have hg : (⟨s.toArray⟩ : ByteArray)[k]'hk = b:=by
  show s.toArray[k]'(by simpa using hl) = b
  simpa using he
 have:=(decode_high ⟨s.toArray⟩ k hk (by rw [hg]; omega)).1
 unfold ia; omega
theorem nn{α : Type}{d : Nat}{v : α}{l : List (Nat×α)} : ∀ {kept : List (Nat×α)},look kept d = none→SubL l kept→SubL ((d,v)::l) kept
 | [],_,_=>trivial
 | (t,x)::r,h,hs=>by
   simp only [look] at h
   cases hb : Nat.beq t d with
   | true=>rw [hb] at h; simp at h
   | false =>
     rw [hb] at h
     simp only [cond_false] at h
     refine ⟨?_,nn h hs.2⟩
     have : Nat.beq d t = false:=by
      cases hc : Nat.beq d t with
      | false=>rfl
      | true=>have:=Nat.eq_of_beq_eq_true hc; subst this; rw [Nat.beq_refl] at hb; cases hb
     simp only [look,this,cond_false]
     exact hs.1
theorem RelE.back{fr : List (Nat×AV)}{st' : St}{a a' : Act}{e : Exit}(hmk : c.mks = [])(hr : Rel c ⟨fr,[]⟩ a w σ φ)(h : RelE ⟨w,σ,φ,MOf φ [],c.n,c.rd,[]⟩ e st' a' w' σ' φ') : RelE c e st' a' w' σ' φ':=by
 rcases h with h | ⟨he,r,h1,h2,h3,h4⟩
 ·have hb:=Rel.back (rd:=c.rd) (mk:=[]) hr h
  have hd : a'.defers = []:=h.defers
  have : ({ a' with defers:=c.mks } : Act) = a':=by rw [hmk,← hd]
  rw [this] at hb
  exact .inl hb
 ·have hb:=Rel.back (rd:=c.rd) (mk:=[]) hr h4
  rw [hmk] at hb
  exact .inr ⟨he,r,h1,h2,Nat.le_trans hr.fra.size h3,hb⟩
def ue(bl : Nat)(Q : Exit→St→Prop)(I : Prop)(kept : List (Nat×AV))(e : Exit)(st : St) : Prop:=(e = .normal∧I∧SubL st.fr kept)∨(e≠.normal∧ax bl Q e st)
def xM(bl : Nat)(Q : Exit→St→Prop)(e : Exit)(st : St) : Prop:=e≠.normal∧ax bl Q e st
theorem DU{bl : Nat}{Q : Exit→St→Prop}{I : Prop}{kept : List (Nat×AV)}(h : I)(hs : SubL st.fr kept) : ue bl Q I kept .normal st:=.inl ⟨rfl,h,hs⟩
theorem DV{bl : Nat}{Q : Exit→St→Prop}{I : Prop}{kept : List (Nat×AV)}{e : Exit}(he : e≠.normal)(h : ax bl Q e st) : ue bl Q I kept e st:=.inr ⟨he,h⟩
theorem CS{bl : Nat}{Q : Exit→St→Prop}{e : Exit}(he : e≠.normal)(h : ax bl Q e st) : xM bl Q e st:=⟨he,h⟩
theorem vQ{id1 id2 bl : Nat}{o0 o1 o2 : Oper}{l2 : List Oper}{body2 : Code}{fr kept : List (Nat×AV)}{Q : Exit→St→Prop}{d0 d1 d2 : Nat}{t : TypeId}{x0 : Operand}{s : List UInt8}
  (hmk : c.mks = []) (h0 : o0.op = .move x0) (hg0 : o0.guard = none) (hd0 : o0.dst = some d0) (hb0 : Nat.blt d0 c.n = true) (hx : ev ⟨fr,[]⟩ x0 = some (.one (.d (.str s))))
  (h1 : o1.op = .range t (.tmp d0)) (hg1 : o1.guard = none) (hd1 : o1.dst = some d1) (hb1 : Nat.blt d1 c.n = true) (ht : P.underlying t = some .string)
  (h2 : o2.op = .next (.tmp d1) true) (hg2 : o2.guard = none) (hd2 : o2.dst = some d2) (hb2 : Nat.blt d2 c.n = true) (hne : Nat.beq d0 d1 = false)
  (hk : SubL fr kept) (hkd : look kept d0 = none) (hkd1 : look kept d1 = none) (hkd2 : look kept d2 = none) (Inv : Nat→Prop) (hi : Inv 0)
  (hmore : ∀ k,Inv k→k < s.length→∀ (c2 : Ctx),c2.n = c.n→c2.rd = c.rd→c2.mks = []→∀ raw,aa P c2 (o2::l2).toArray l2 ⟨(d2,.tup [(false,[.d (.bool true)]),(false,[.d (.int .i64 k)]),(false,[.d (.int .i32 (ia s k))])])::(d1,.one (.d (.raw raw)))::kept,[]⟩
   (fun st'=>OkC P c2 body2 st' (ue bl Q (Inv (k + iN s k)) ((d1,.one (.d (.raw raw)))::kept))))
  (hover : ∀ k,Inv k→s.length≤k→∀ (c2 : Ctx),c2.n = c.n→c2.rd = c.rd→c2.mks = []→∀ raw,aa P c2 (o2::l2).toArray l2 ⟨(d2,.tup [(false,[.d (.bool false)])])::(d1,.one (.d (.raw raw)))::kept,[]⟩
   (fun st'=>OkC P c2 body2 st' (xM bl Q))) :
  OkC P c (.seq (.region id1 ⟨[o0,o1]⟩ false) (.block bl (.loop (.seq (.region id2 ⟨o2::l2⟩ false) body2)))) ⟨fr,[]⟩ Q:=by
 intro a w σ φ hr
 refine wpIn_seq (wpIn_region_list ?_)
 have hs:=aw hr hx
 replace hs:=RepC.d_inv hs
 generalize hv : a.eval x0 = v at hs
 cases hs with
 | str hlen =>
 have hrun0 : (execOp a.eval o0).run P w = .ok (.value (.string ⟨s.toArray⟩)) w:=by
  rw [← hv]; simp [execOp,h0]
 refine nk hg0 hrun0 ?_
 have hr1 : Rel c ⟨(d0,.one (.d (.str s)))::fr,[]⟩ (a.put o0.dst (.string ⟨s.toArray⟩)) w σ φ:=by
  have:=hr.putTo (dst:=o0.dst) (v:=.one (.d (.str s))) (u:=.string ⟨s.toArray⟩) (st':=⟨fr,[]⟩) (by rw [hd0]; exact hb0) hr.le hr.fresh hr.inv hr.mine hr.fra hr.pin (fun _=>RepC.d (.str hlen)) (fun s x _ hx=>⟨x,hx,fun z hz=>hz⟩)
  rw [hd0] at this ⊢; exact this
 generalize ha1 : a.put o0.dst (.string ⟨s.toArray⟩) = a1 at hr1
 have hv1 : a1.eval (.tmp d0) = .string ⟨s.toArray⟩:=by
  have h3:=aw hr1 (x:=.tmp d0) (v:=.one (.d (.str s))) (by simp [ev,look])
  replace h3:=RepC.d_inv h3
  generalize a1.eval (.tmp d0) = v1 at h3
  cases h3; rfl
 let ptr : Value:=.pointer (some ⟨w.heap.size,0,none⟩)
 have hrun1 : (execOp a1.eval o1).run P w = .ok (.value ptr) (w.alloc (.stringIter ⟨s.toArray⟩ 0)):=by
  have h4:=run_range_string (P:=P) w t ⟨s.toArray⟩ ht
  simp only [execOp,h1,hv1]
  simp only [Sem.run_bind,h4,Result.andThen_ok,Sem.run_pure]
  rfl
 refine nk hg1 hrun1 (wpListIn_nil ?_)
 have hrA:=hr1.alien (.stringIter ⟨s.toArray⟩ 0)
 have hr2 : Rel c ⟨(d1,.one (.d (.raw ptr)))::(d0,.one (.d (.str s)))::fr,[]⟩ (a1.put o1.dst ptr) (w.alloc (.stringIter ⟨s.toArray⟩ 0)) σ φ:=by
  have:=hrA.putTo (dst:=o1.dst) (v:=.one (.d (.raw ptr))) (u:=ptr) (st':=⟨(d0,.one (.d (.str s)))::fr,[]⟩) (by rw [hd1]; exact hb1) hrA.le hrA.fresh hrA.inv hrA.mine hrA.fra hrA.pin (fun _=>RepC.d (.raw rfl)) (fun s x _ hx=>⟨x,hx,fun z hz=>hz⟩)
  rw [hd1] at this ⊢; exact this
 generalize a1.put o1.dst ptr = a2 at hr2
 have hold : c.w0.heap.size≤w.heap.size:=hr.fra.size
 let r:=w.heap.size
 have hr3 : Rel c ⟨(d1,.one (.d (.raw ptr)))::kept,[]⟩ a2 (w.alloc (.stringIter ⟨s.toArray⟩ 0)) σ φ :=
  ⟨hr2.le,hr2.fresh,hr2.inv,hr2.mine,fun s v hv=>hr2.slot s v (SubL.look (l':=(d1,.one (.d (.raw ptr)))::kept) ⟨by simp [look],nn hkd1 (nn hkd hk)⟩ hv),hr2.defers,hr2.size,hr2.fra,hr2.pin⟩
 refine wpIn_block (wpIn_loop (fun a w=>∃ k σ φ,Inv k∧Rel c ⟨(d1,.one (.d (.raw ptr)))::kept,[]⟩ a w σ φ∧w.heap[r]? = some (.stringIter ⟨s.toArray⟩ k)) (fun _ w=>match w.heap[r]? with | some (.stringIter _ p)=>s.length - p | _=>0)
  ⟨0,σ,φ,hi,hr3,b7 _ _⟩ ?_)
 clear hr3 hr2 hrA hr1 hrun1 hrun0 hv1 ha1 a1 a2
 rintro a w1 ⟨k,σ1,φ1,hI,hr4,hh⟩
 refine wpIn_seq (wpIn_region_list ?_)
 have hp : a.eval (.tmp d1) = ptr:=by
  have h3:=aw hr4 (x:=.tmp d1) (v:=.one (.d (.raw ptr))) (by simp [ev,look])
  replace h3:=RepC.d_inv h3
  generalize a.eval (.tmp d1) = v1 at h3
  cases h3; rfl
 have hsz : (⟨s.toArray⟩ : ByteArray).size = s.length:=by simp [ByteArray.size]
 have fin : ∀ {w2 : World} {st2 : St} {a2 : Act} (hr5 : Rel c ⟨st2.fr,[]⟩ a2 w2 σ1 φ1) (hst : st2.sto = []) {R : St→Prop} {K : Exit→St→Prop} (_ : ∀ st',R st'→OkC P ⟨w2,σ1,φ1,MOf φ1 [],c.n,c.rd,[]⟩ body2 st' K)
   (_ : aa P ⟨w2,σ1,φ1,MOf φ1 [],c.n,c.rd,[]⟩ (o2::l2).toArray l2 st2 R) {Z : Exit→Act→World→Prop}
   (_ : ∀ e a5 w5 st5 σ5 φ5,K e st5→RelE ⟨w2,σ1,φ1,MOf φ1 [],c.n,c.rd,[]⟩ e st5 a5 w5 σ5 φ5→Z e a5 w5),wpListIn (fnc c) 0 P (o2::l2).toArray (Exit.then (body2.wpIn (fnc c) 0 P Z) Z) l2 a2 w2:=by
  intro w2 st2 a2 hr5 hst R K hR hO Z hZ
  have hd0 : a2.defers = []:=hr5.defers.trans hmk
  have hd : ({ a2 with defers:=[] } : Act) = a2:=by rw [← hd0]
  have hr6:=hr5.anew [] c.rd
  rw [hd] at hr6
  obtain ⟨f2,s2⟩:=st2
  simp only at hst hr6
  subst hst
  refine hO a2 w2 σ1 φ1 _ hr6 fun a4 w4 σ4 φ4 st4 hK hr7=>?_
  exact wpIn_mono (hR st4 hK a4 w4 σ4 φ4 hr7) fun e a5 w5 ⟨st5,σ5,φ5,hq,hre⟩=>hZ e a5 w5 st5 σ5 φ5 hq hre
 have leave : ∀ {e : Exit} {a5 : Act} {w5 : World} {st5 : St} {σ5 : Sig} {φ5 : Pl},ax bl Q e st5→RelE c e st5 a5 w5 σ5 φ5→e≠.normal→Exit.inBlock bl (fun e a' w'=>∃ st' σ' φ',Q e st'∧RelE c e st' a' w' σ' φ') e a5 w5:=by
  intro e a5 w5 st5 σ5 φ5 hq hre hne
  cases e with
  | normal=>exact absurd rfl hne
  | exit i =>
    simp only [ax] at hq
    cases hb : Nat.beq i bl with
    | true =>
      have hi:=Nat.eq_of_beq_eq_true hb
      rw [hb] at hq
      simp only [Exit.inBlock]
      rw [if_pos hi]
      exact ⟨st5,σ5,φ5,hq,.inl (hre.rel (by simp))⟩
    | false =>
      have hi : i≠bl:=by rintro rfl; rw [Nat.beq_refl] at hb; cases hb
      rw [hb] at hq
      simp only [Exit.inBlock]
      rw [if_neg hi]
      exact ⟨st5,σ5,φ5,hq,hre⟩
  | _=>exact ⟨st5,σ5,φ5,hq,hre⟩
 by_cases hlt : k < s.length
 ·have hrun2:=ta (P:=P) (ty:=o2.type) hh (by rw [hsz]; exact hlt)
  have hrun : (execOp a.eval o2).run P w1 = .ok (.value (.tuple #[.bool true,.int .i64 k,.int .i32 (Utf8.decode ⟨s.toArray⟩ k).1])) { w1 with heap:=w1.heap.setIfInBounds r (.stringIter ⟨s.toArray⟩ (k + (Utf8.decode ⟨s.toArray⟩ k).2)) }:=by
   simp only [execOp,h2,hp]
   simp only [Sem.run_bind,ptr]
   rw [show (⟨w.heap.size,0,none⟩ : Addr) = ⟨r,0,none⟩ from rfl,hrun2]
   rfl
  refine nk hg2 hrun ?_
  have hri:=hr4.iter (q:=k + (Utf8.decode ⟨s.toArray⟩ k).2) hh hold
  have hrl:=decode_le ⟨s.toArray⟩ k
  have hr5:=hri.putTo (dst:=o2.dst) (v:=.tup [(false,[.d (.bool true)]),(false,[.d (.int .i64 k)]),(false,[.d (.int .i32 (ia s k))])]) (u:=.tuple #[.bool true,.int .i64 k,.int .i32 (Utf8.decode ⟨s.toArray⟩ k).1]) (st':=⟨(d1,.one (.d (.raw ptr)))::kept,[]⟩) (by rw [hd2]; exact hb2) hri.le hri.fresh hri.inv hri.mine hri.fra hri.pin
   (fun _=>⟨[_,_,_],rfl,⟨⟨.d .bool,trivial⟩,⟨⟨.d (.int (by
    simp only [inR,IntKind.min,IntKind.max,IntKind.signed,IntKind.bits,if_true]; omega)),trivial⟩,⟨⟨.d (.int (by
    simp only [inR,ia,IntKind.min,IntKind.max,IntKind.signed,IntKind.bits,if_true]; omega)),trivial⟩,trivial⟩⟩⟩⟩) (fun s x _ hx=>⟨x,hx,fun z hz=>hz⟩)
  rw [hd2] at hr5 ⊢
  refine fin (st2:=⟨_,[]⟩) hr5 rfl (fun st' h=>h) (hmore k hI hlt ⟨_,σ1,φ1,MOf φ1 [],c.n,c.rd,[]⟩ rfl rfl rfl ptr) ?_
  rintro e a5 w5 st5 σ5 φ5 hq hre
  have hbk:=RelE.back hmk hri hre
  rcases hq with ⟨rfl,hI',hsub⟩ | ⟨hne',hq⟩
  ·have h6:=hbk.rel (by simp)
   have h7:=hre.rel (by simp)
   have hlt1 : r < w1.heap.size:=(Array.getElem?_eq_some_iff.1 hh).1
   have h8 : w5.heap[r]? = some (.stringIter ⟨s.toArray⟩ (k + iN s k)):=by
    rw [h7.fra.block r (by simp only [Array.size_setIfInBounds]; exact hlt1) (by rintro ⟨id,e,p,h,_⟩; simp [look] at h)]
    simp [hlt1,iN]
   have h9:=h6.dropTo (s':=[]) (by simp [look])
   refine ⟨⟨_,σ5,φ5,hI',⟨h9.le,h9.fresh,h9.inv,h9.mine,fun s v hv=>h9.slot s v (hsub.look hv),h9.defers,h9.size,h9.fra,h9.pin⟩,h8⟩,?_⟩
   ·simp only [h8,hh]
    have:=vP ⟨s.toArray⟩ k (by rw [hsz]; exact hlt)
    simp only [iN]
    omega
  ·have:=leave hq hbk hne'
   cases e <;> first | exact absurd rfl hne' | exact this
 ·have hrun2:=sZ (P:=P) (ty:=o2.type) hh (by rw [hsz]; exact hlt)
  have hrun : (execOp a.eval o2).run P w1 = .ok (.value (.tuple #[.bool false])) w1:=by
   simp only [execOp,h2,hp]
   simp only [Sem.run_bind,ptr]
   rw [show (⟨w.heap.size,0,none⟩ : Addr) = ⟨r,0,none⟩ from rfl,hrun2]
   rfl
  refine nk hg2 hrun ?_
  have hr5:=hr4.putTo (dst:=o2.dst) (v:=.tup [(false,[.d (.bool false)])]) (u:=.tuple #[.bool false]) (st':=⟨(d1,.one (.d (.raw ptr)))::kept,[]⟩) (by rw [hd2]; exact hb2) hr4.le hr4.fresh hr4.inv hr4.mine hr4.fra hr4.pin
   (fun _=>⟨[_],rfl,⟨⟨.d .bool,trivial⟩,trivial⟩⟩) (fun s x _ hx=>⟨x,hx,fun z hz=>hz⟩)
  rw [hd2] at hr5 ⊢
  refine fin (st2:=⟨_,[]⟩) hr5 rfl (fun st' h=>h) (hover k hI (by omega) ⟨_,σ1,φ1,MOf φ1 [],c.n,c.rd,[]⟩ rfl rfl rfl ptr) ?_
  rintro e a5 w5 st5 σ5 φ5 ⟨hne',hq⟩ hre
  have:=leave hq (RelE.back hmk hr4 hre) hne'
  cases e <;> first | exact absurd rfl hne' | exact this
end Go.Abs
namespace Go.Proofs.YtpejdgkaapnekaaGreat
open Go Go.Abs
attribute [local irreducible] aa OkC aq aC ax aS ue xM
set_option maxRecDepth 10000
theorem D2 : Tryz.prog.underlying 9 = some .string:=by kernel_rfl
theorem uw{s : List UInt8}{k : Nat}(h : k < s.length) : (decide (ia s k < 32) || decide (126 < ia s k)) = !du (at_ s k):=by
 have hb:=cZ h
 by_cases ha : (at_ s k).toNat < 128
 ·rw [(qh hb ha).1,Bool.eq_iff_iff]
  simp [du]
  omega
 ·have:=zF hb ha
  rw [Bool.eq_iff_iff]
  simp [du]
  omega
theorem Bz{s : List UInt8}{k : Nat}(h : k < s.length)(hb : du (at_ s k) = true) : iN s k = 1:=by
 simp [du] at hb
 exact (qh (cZ h) (by omega)).2
theorem F0(s : List UInt8) : CallA Tryz.prog 341 [.one (.d (.str s)),.one (.d (.fn 281 [])),.one (.d (.bool true))] [] (.one (.d (.int .i64 (aD (fun c=>!du c) s 0)))) []:=by
 refine enter ag Tryz.func341 rfl (by decide +kernel) rfl fun hok w0 σ0 φ0 M=>?_
 have hl:=hok.1.str; clear hok
 repeat' (first|(refine h5H ?_; refine vQ (kept:=[(1,_),(2,_)]) J J J J J J J J J J D2 J J J J J (q2Q J J) J J J (fun k=>k≤s.length∧aD (fun c=>!du c) s 0 = aD (fun c=>!du c) (s.drop k) k) ⟨Nat.zero_le _,rfl⟩ ?_ ?_)|refine wG ?_)
 ·rintro k ⟨hk,hi⟩ hlt ⟨w1,σ1,φ1,M1,n1,rd1,mk1⟩ hn hrd hmk raw
  dsimp only at hn hrd hmk
  subst hn hrd hmk
  repeat' (first|(refine h1H ?_; (refine h0H ?_; refine ab J J J J J J J J (FA _) J ?_))|(show ue _ _ _ _ _ _; refine DU ?_ (by first|exact bL|exact (q1Q J)|exact (q2Q J J)|exact (q3Q J J J)|exact (q4Q J J J J)|exact (q5Q J J J J J)|exact (q6Q J J J J J J)|exact (q7Q J J J J J J J)))|refine wG ?_|(refine h5H ?_; refine ao J (fun h=>?_) (fun h=>?_)))
  ·rw [uw hlt] at h
   rw [hi,av hlt]
   simp at h
   simp [aD,h]
  ·rw [uw hlt] at h
   have hb : du (at_ s k) = true:=by simpa using h
   rw [Bz hlt hb]
   refine ⟨by omega,?_⟩
   rw [hi,av hlt]
   simp [aD,hb]
 ·rintro k ⟨hk,hi⟩ hge ⟨w1,σ1,φ1,M1,n1,rd1,mk1⟩ hn hrd hmk raw
  dsimp only at hn hrd hmk
  subst hn hrd hmk
  repeat' (first|refine wG ?_)
  rw [hi,List.drop_eq_nil_of_le hge]
  rfl
theorem F1(s : List UInt8) : CallA Tryz.prog 282 [.one (.d (.str s)),.one (.d (.fn 281 []))] [] (.one (.d (.int .i64 (aD (fun c=>!du c) s 0)))) []:=by
 refine enter ag Tryz.func282 rfl (by decide +kernel) rfl fun hok w0 σ0 φ0 M=>?_
 clear hok
 repeat' (first|(refine h1H ?_; (refine h0H ?_; refine ab J J J J J J J J (F0 _) J ?_))|refine wG ?_)
 all_goals rfl
end Go.Proofs.YtpejdgkaapnekaaGreat
namespace Go.Proofs.YtpejdgkaapnekaaGreat
open Go Go.Abs
attribute [local irreducible] aa OkC aq aC ax aS
set_option maxRecDepth 10000
theorem E8(a b : Int)(ha : 0≤a)(hb : 0≤b) : CallA Tryz.prog 280 [.one (.d (.int .i64 a)),.one (.d (.int .i64 b))] [] (.one (.d (.int .i64 ((Nat.gcd a.toNat b.toNat : Nat) : Int)))) []:=by
 have:=H0 a.toNat b.toNat
 rwa [Int.toNat_of_nonneg ha,Int.toNat_of_nonneg hb] at this
theorem Dv{s : List UInt8} : ∀ (k : Nat),(decide (aD (fun c=>!du c) s k < 0)) = s.all du:=by
 induction s with
 | nil=>intro k; simp [aD]
 | cons c r ih =>
   intro k
   simp only [aD,List.all_cons,← ih (k + 1)]
   rw [Bool.eq_iff_iff]
   by_cases hc : du c = true <;> simp [hc]
theorem Gk(k n d : Int)(s : List UInt8) : CallA Tryz.prog 233 [.agg [.d (.int .i64 k),.d (.int .i64 n),.d (.int .i64 d),.d (.str s)]] [] (.one (.d (.bool (gd k n d s)))) []:=by
 refine enter ag Tryz.func233 rfl (by decide +kernel) rfl fun hok w0 σ0 φ0 M=>?_
 have h1:=(hok.1 (.d (.int .i64 n)) (by simp)); replace h1:=OkD.i64 h1; clear hok
 repeat' (first|(refine h1H ?_; (refine h0H ?_; first|refine ab J J J J J J J J (HZ _ _ _ _) J ?_|refine ab J J J J J J J J (E8 _ _ wB wB) J ?_|refine ab J J J J J J J J (F1 _) J ?_))|refine wG ?_|(refine h1H ?_; (refine h4H ?_; refine bn J J J J (fun h=>?_) (fun h=>?_)))|(refine h5H ?_; refine ao J (fun h=>?_) (fun h=>?_)))
 all_goals (try (((simp_all [gd,← Dv 0,av,List.drop_eq_nil_of_le]) <;> exact wL); done))
theorem Fz(k n d : Int)(s : List UInt8)(t : Int) : CallA Tryz.prog 215 [.agg [.d (.int .i64 k),.d (.int .i64 n),.d (.int .i64 d),.d (.str s)],.one (.d (.int .i64 t))] [] (.one (.d (.bool (mg k n d s t)))) []:=by
 refine enter ag Tryz.func215 rfl (by decide +kernel) rfl fun hok w0 σ0 φ0 M=>?_
 clear hok
 repeat' (first|(refine h1H ?_; (refine h0H ?_; refine ab J J J J J J J J (Gk _ _ _ _) J ?_))|refine wG ?_|(refine h1H ?_; (refine h4H ?_; refine bn J J J J (fun h=>?_) (fun h=>?_)))|(refine h5H ?_; refine ao J (fun h=>?_) (fun h=>?_)))
 all_goals (try (((simp_all [mg,av,List.drop_eq_nil_of_le]) <;> exact wL); done))
 all_goals (by_cases hk : k = 0 <;> simp_all [mg,gd])
 all_goals omega
structure Cell where
 at' : List Int
 vals : List Val
 deriving Inhabited
def af(c : Cell) : List D:=[aF c.at',bM c.vals]
def ak(l : List Cell) : D:=.sl 2 48 (l.map af)
def gK : List Attr→List Val→Int
 | a::ats,v::vs=>if !mg v.kind v.num v.den v.str a.type then 12 else gK ats vs
 | _,_=>0
def cU(ds : List Dim)(ats : List Attr)(at' : List Int)(vs : List Val) : Int :=
 if (at'.length : Int)≠ds.length∨(vs.length : Int)≠ats.length then 13 else if !ofF ds at' then 3 else gK ats vs
theorem Fx(ds : List Dim)(ats : List Attr)(at' : List Int)(vs : List Val) : CallA Tryz.prog 161 [.one (.d (aj ds)),.one (.d (ai ats)),.agg [.d (aF at'),.d (bM vs)]] [] (.one (.d (.int .i64 (cU ds ats at' vs)))) []:=by
 refine enter ag Tryz.func161 rfl (by decide +kernel) rfl fun hok w0 σ0 φ0 M=>?_
 have h1:=hok.1.sl.1; have h2:=hok.2.1.sl.1; have h3:=OkD.sl (hok.2.2.1 (.d (aF at')) (by simp)); have h4:=OkD.sl (hok.2.2.1 (.d (bM vs)) (by simp)); clear hok
 replace h3:=h3.1; replace h4:=h4.1; simp only [List.length_map] at h1 h2 h3 h4
 repeat' (first|(refine h1H ?_; (refine h0H ?_; refine ab J J J J J J J J (Fy _ _) J ?_))|(refine h3H ?_; (refine h2H ?_; refine d_l J J (bw J J J J J J (Fz _ _ _ _ _) J) ?_))|refine wG ?_|(refine h1H ?_; (refine h4H ?_; refine bn J J J J (fun h=>?_) (fun h=>?_)))|(refine h5H ?_; first|refine ao J (fun h=>?_) (fun h=>?_)|refine bc 6 J [(1,_),(29,_),(30,_)] (q3Q J J J) (fun (k : Nat)=>[(31,.one (.d (.int .i64 k)))]) (fun (k : Nat)=>k≤vs.length∧at'.length = ds.length∧vs.length = ats.length∧ofF ds at' = true∧cU ds ats at' vs = gK (ats.drop k) (vs.drop k)) (fun (k : Nat)=>vs.length - k) 0 (q1Q J) ?_ (fun k ⟨hk,hq,hq2,hof,hs⟩=>?_))|(show Exists _; refine Exists.intro (k + 1) ⟨?_,?_,wK,(q1Q J),(q3Q J J J)⟩))
 all_goals (try (((simp_all [cU,gK,av,List.drop_eq_nil_of_le]) <;> exact wL); done))
def cF(ds : List Dim)(ats : List Attr) : Option (List Int)→List Cell→Int
 | _,[]=>0
 | none,c::r=>if cU ds ats c.at' c.vals≠0 then cU ds ats c.at' c.vals else cF ds ats (some c.at') r
 | some p,c::r=>if cU ds ats c.at' c.vals≠0 then cU ds ats c.at' c.vals else if aJ p c.at' = 0 then 5 else if 0 < aJ p c.at' then 2 else cF ds ats (some c.at') r
def bz(ds : List Dim)(ats : List Attr)(cs : List Cell) : Int:=if cG ds ats≠0 then cG ds ats else if 4096 < (cs.length : Int) then 9 else cF ds ats none cs
def pv(cs : List Cell)(k : Nat) : Option (List Int):=if k = 0 then none else some (at_ cs ((k : Int) - 1).toNat).at'
theorem nW{cs : List Cell} : pv cs 0 = none:=rfl
theorem tI{cs : List Cell}{k : Nat}(h : ¬ k = 0) : pv cs k = some (at_ cs ((k : Int) - 1).toNat).at':=by simp [pv,h]
theorem nX{cs : List Cell}{k : Nat} : pv cs (k + 1) = some (at_ cs k).at':=by
 have : (((k + 1 : Nat) : Int) - 1).toNat = k:=by omega
 rw [tI (by omega),this]
theorem oF{ds : List Dim}{ats : List Attr}{p : Option (List Int)}{c : Cell}{r : List Cell}(h : cU ds ats c.at' c.vals≠0) : cF ds ats p (c::r) = cU ds ats c.at' c.vals:=by cases p <;> simp [cF,h]
theorem pX : ∀ {a b : List Int},aJ a b = 0∨aJ a b = 1∨aJ a b = -1
 | [],[]=>by simp [aJ]
 | [],_::_=>by simp [aJ]
 | _::_,[]=>by simp [aJ]
 | x::xs,y::ys=>by
   simp only [aJ]
   split
   ·simp
   ·split
    ·simp
    ·exact pX
theorem tJ{a b : List Int} : 0 < aJ a b↔aJ a b = 1:=by
 rcases pX (a:=a) (b:=b) with h | h | h <;> simp [h]
end Go.Proofs.YtpejdgkaapnekaaGreat
