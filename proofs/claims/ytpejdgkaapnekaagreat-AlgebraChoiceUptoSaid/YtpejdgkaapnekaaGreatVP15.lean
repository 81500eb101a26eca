import Derived.LoopNIn
import Derived.Test.YtpejdgkaapnekaaGreatVP14
set_option linter.unusedVariables false
set_option linter.unusedSimpArgs false
set_option linter.unnecessarySimpa false
set_option maxHeartbeats 1000000
namespace Go.Proofs.YtpejdgkaapnekaaGreat
open Go Go.Abs
attribute [local irreducible] aa OkC ak ar al ax
set_option maxRecDepth 10000
theorem J9(ds : List Dim)(at' : List Int) : CallA Tryz.prog 204 [.one (.d (aJ ds)),.one (.d (az at'))] [] (.one (.d (.bool (ofF ds at')))) []:=by
 refine enter af Tryz.func204 rfl (by decide +kernel) rfl fun hok w0 σ0 φ0 M=>?_
 have h1:=hok.1.sl; have h2:=hok.2.1.sl; clear hok; simp only [List.length_map] at h1 h2; replace h1:=h1.1; replace h2:=h2.1
 repeat' (first|(refine h1H ?_; (refine h0H ?_; refine ae J J J J J J J J (Kp _ _ _) J ?_))|refine wG ?_|(refine h1H ?_; (refine h4H ?_; refine aC J J J J (fun h=>?_) (fun h=>?_)))|(refine h5H ?_; first|refine ai J (fun h=>?_) (fun h=>?_)|refine aY 4 J [(0,_),(12,_),(13,_)] (q3Q J J J) (fun (k : Nat)=>[(14,.one (.d (.int .i64 k)))]) (fun (k : Nat)=>k≤ds.length∧at'.length = ds.length∧bk ds at' = bk (ds.drop k) (at'.drop k)) (fun (k : Nat)=>ds.length - k) 0 (q1Q J) ?_ (fun k ⟨hk,hq,hs⟩=>?_))|(show Exists _; refine Exists.intro (k + 1) ⟨?_,?_,wK,(q1Q J),(q3Q J J J)⟩))
 all_goals (try (((simp_all [ofF,bk,aj,List.drop_eq_nil_of_le]) <;> exact wL); done))
def aX : List Int→List Int→Int
 | [],[]=>0
 | [],_::_=>-1
 | _::_,[]=>1
 | x::xs,y::ys=>if x < y then -1 else if y < x then 1 else aX xs ys
theorem xe{b : List Int} : aX [] b = if b = [] then 0 else -1:=by cases b <;> simp [aX]
theorem uS{a : List Int} : aX a [] = if a = [] then 0 else 1:=by cases a <;> simp [aX]
theorem Kq(a b : List Int) : CallA Tryz.prog 176 [.one (.d (az a)),.one (.d (az b))] [] (.one (.d (.int .i64 (aX a b)))) []:=by
 refine enter af Tryz.func176 rfl (by decide +kernel) rfl fun hok w0 σ0 φ0 M=>?_
 have h1:=hok.1.sl; have h2:=hok.2.1.sl; clear hok; simp only [List.length_map] at h1 h2; replace h1:=h1.1; replace h2:=h2.1
 repeat' (first|refine wG ?_|(refine h1H ?_; (refine h4H ?_; refine aC J J J J (fun h=>?_) (fun h=>?_)))|(refine h5H ?_; first|refine ai J (fun h=>?_) (fun h=>?_)|refine aY 2 J [(0,_),(1,_)] (q2Q J J) (fun (k : Nat)=>[(5,.one (.d (.int .i64 k)))]) (fun (k : Nat)=>k≤a.length∧k≤b.length∧aX a b = aX (a.drop k) (b.drop k)) (fun (k : Nat)=>a.length - k) 0 (q1Q J) ?_ (fun k ⟨hk,hq,hs⟩=>?_))|(show Exists _; refine Exists.intro (k + 1) ⟨?_,?_,wK,(q1Q J),(q2Q J J)⟩))
 all_goals (try (((simp_all [aX,xe,uS,aj,List.drop_eq_nil_of_le]) <;> exact wL); done))
theorem Kr(x : Int) : CallA Tryz.prog 246 [.one (.d (.int .i64 x))] [] (.one (.d (.bool false))) []:=by
 refine enter af Tryz.func246 rfl (by decide +kernel) rfl fun hok w0 σ0 φ0 M=>?_
 repeat' (first|refine wG ?_)
 all_goals (try (((simp_all [aj,List.drop_eq_nil_of_le]) <;> exact wL); done))
theorem Ks(x y : Int) : CallA Tryz.prog 198 [.one (.d (.int .i64 x)),.one (.d (.int .i64 y))] [] (.one (.d (.int .i64 (if x < y then -1 else if y < x then 1 else 0)))) []:=by
 refine enter af Tryz.func198 rfl (by decide +kernel) rfl fun hok w0 σ0 φ0 M=>?_
 repeat' (first|(refine h1H ?_; (refine h0H ?_; refine ae J J J J J J J J (Kr _) J ?_))|refine wG ?_|(refine h5H ?_; refine ai J (fun h=>?_) (fun h=>?_)))
 all_goals (try (((simp_all [aj,List.drop_eq_nil_of_le]) <;> exact wL); done))
theorem Kt(a b : List Int) : CallA Tryz.prog 130 [.one (.d (az a)),.one (.d (az b))] [] (.one (.d (.int .i64 (aX a b)))) []:=by
 refine enter af Tryz.func130 rfl (by decide +kernel) rfl fun hok w0 σ0 φ0 M=>?_
 have h1:=hok.1.sl; have h2:=hok.2.1.sl; clear hok; simp only [List.length_map] at h1 h2; replace h1:=h1.1; replace h2:=h2.1
 repeat' (first|(refine h1H ?_; (refine h0H ?_; refine ae J J J J J J J J (Ks _ _) J ?_))|refine wG ?_|(refine h5H ?_; first|refine ai J (fun h=>?_) (fun h=>?_)|refine aY 2 J [(0,_),(1,_),(9,_),(10,_)] (q4Q J J J J) (fun (k : Nat)=>[(11,.one (.d (.int .i64 k)))]) (fun (k : Nat)=>k≤a.length∧k≤b.length∧aX a b = aX (a.drop k) (b.drop k)) (fun (k : Nat)=>a.length - k) 0 (q1Q J) ?_ (fun k ⟨hk,hq,hs⟩=>?_))|(show Exists _; refine Exists.intro (k + 1) ⟨?_,?_,wK,(q1Q J),(q4Q J J J J)⟩))
 all_goals (try (((simp_all [aX,xe,uS,aj,List.drop_eq_nil_of_le]) <;> exact wL); done))
theorem c35(a b : List Int) : CallA Tryz.prog 35 [.one (.d (az a)),.one (.d (az b))] [] (.one (.d (.int .i64 (aX a b)))) []:=by
 refine enter af Tryz.func35 rfl (by decide +kernel) rfl fun hok w0 σ0 φ0 M=>?_
 repeat' (first|(refine h1H ?_; (refine h0H ?_; refine ae J J J J J J J J (Kt _ _) J ?_))|refine wG ?_)
 all_goals (try (((simp_all [aj,List.drop_eq_nil_of_le]) <;> exact wL); done))
def aM{α : Type}(p : α→Bool) : List α→Nat→Int
 | [],_=>-1
 | x::r,k=>if p x then k else aM p r (k + 1)
theorem Hv(l : List Attr)(name : List UInt8) : CallA Tryz.prog 114 [.one (.d (aF l)),.one (.d (.str name))] [] (.one (.d (.int .i64 (aM (fun a : Attr=>a.name == name) l 0)))) []:=by
 refine enter af Tryz.func114 rfl (by decide +kernel) rfl fun hok w0 σ0 φ0 M=>?_
 have h1:=hok.1.sl; clear hok; simp only [List.length_map] at h1; replace h1:=h1.1
 repeat' (first|refine wG ?_|(refine h5H ?_; first|refine ai J (fun h=>?_) (fun h=>?_)|refine aY 2 J [(0,_),(1,_)] (q2Q J J) (fun (k : Nat)=>[(5,.one (.d (.int .i64 k)))]) (fun (k : Nat)=>k≤l.length∧aM (fun a : Attr=>a.name == name) l 0 = aM (fun a : Attr=>a.name == name) (l.drop k) k) (fun (k : Nat)=>l.length - k) 0 (q1Q J) ?_ (fun k ⟨hk,hs⟩=>?_))|(show Exists _; refine Exists.intro (k + 1) ⟨?_,?_,wK,(q1Q J),(q2Q J J)⟩))
 all_goals (try (((simp_all [aM,aj,List.drop_eq_nil_of_le]) <;> exact wL); done))
theorem Hw(l : List Dim)(name : List UInt8) : CallA Tryz.prog 118 [.one (.d (aJ l)),.one (.d (.str name))] [] (.one (.d (.int .i64 (aM (fun a : Dim=>a.name == name) l 0)))) []:=by
 refine enter af Tryz.func118 rfl (by decide +kernel) rfl fun hok w0 σ0 φ0 M=>?_
 have h1:=hok.1.sl; clear hok; simp only [List.length_map] at h1; replace h1:=h1.1
 repeat' (first|refine wG ?_|(refine h5H ?_; first|refine ai J (fun h=>?_) (fun h=>?_)|refine aY 2 J [(0,_),(1,_)] (q2Q J J) (fun (k : Nat)=>[(5,.one (.d (.int .i64 k)))]) (fun (k : Nat)=>k≤l.length∧aM (fun a : Dim=>a.name == name) l 0 = aM (fun a : Dim=>a.name == name) (l.drop k) k) (fun (k : Nat)=>l.length - k) 0 (q1Q J) ?_ (fun k ⟨hk,hs⟩=>?_))|(show Exists _; refine Exists.intro (k + 1) ⟨?_,?_,wK,(q1Q J),(q2Q J J)⟩))
 all_goals (try (((simp_all [aM,aj,List.drop_eq_nil_of_le]) <;> exact wL); done))
end Go.Proofs.YtpejdgkaapnekaaGreat
namespace Go.Proofs.YtpejdgkaapnekaaGreat
open Go Go.Abs
theorem lP : ∀ a : List Int,aX a a = 0
 | []=>rfl
 | x::a=>by simp only [aX,if_neg (Int.lt_irrefl x)]; exact lP a
theorem gj : ∀ a b : List Int,aX b a = - aX a b
 | [],[]=>rfl
 | [],_::_=>rfl
 | _::_,[]=>rfl
 | x::a,y::b=>by
   simp only [aX]
   by_cases h1 : x < y
   ·rw [if_pos h1,if_neg (by omega),if_pos h1]; rfl
   ·by_cases h2 : y < x
    ·rw [if_pos h2,if_neg h1,if_pos h2]
    ·rw [if_neg h1,if_neg h2,if_neg h1,if_neg h2]; exact gj a b
theorem fG : ∀ a b c : List Int,aX a b≤0→aX b c≤0→aX a c≤0∧(aX a c = 0→aX a b = 0∧aX b c = 0)
 | [],[],[],_,_=>by simp [aX]
 | [],[],_::_,_,_=>by simp [aX]
 | [],_::_,[],_,h=>by simp [aX] at h
 | [],_::_,_::_,_,_=>by simp [aX]
 | _::_,[],_,h,_=>by simp [aX] at h
 | _::_,_::_,[],_,h=>by simp [aX] at h
 | x::a,y::b,z::c,h1,h2=>by
   have ih:=fG a b c
   simp only [aX] at h1 h2 ⊢
   split at h1 <;> split at h2 <;> (try split at h1) <;> (try split at h2) <;> (try omega)
   all_goals first
    | (rw [if_pos (by omega)]; omega)
    | (have:=ih h1 h2
       simp only [if_neg (show ¬ x < y by omega),if_neg (show ¬ y < x by omega),if_neg (show ¬ y < z by omega),if_neg (show ¬ z < y by omega),if_neg (show ¬ x < z by omega),if_neg (show ¬ z < x by omega)]
       exact this)
theorem zC : ∀ a b : List Int,aX a b = 0→a = b
 | [],[],_=>rfl
 | [],_::_,h=>by simp [aX] at h
 | _::_,[],h=>by simp [aX] at h
 | x::a,y::b,h=>by
   simp only [aX] at h
   split at h
   ·omega
   ·split at h
    ·omega
    ·rw [zC a b h,show x = y by omega]
end Go.Proofs.YtpejdgkaapnekaaGreat
namespace Go.Proofs.YtpejdgkaapnekaaGreat
open Go Go.Abs
attribute [local irreducible] aa OkC ak ar al ax
set_option maxRecDepth 10000
def dx(c : UInt8) : Bool:=decide (32≤c.toNat) && decide (c.toNat≤126)
def dH(k n d : Int)(s : List UInt8) : Bool :=
 if k = 0 then mS d s && (decide (1≤n) && decide (n≤255))
 else if k = 1 then mS d s && (n == 0 || n == 1)
 else if k = 2 then s == [] && (decide (1≤d) && (decide (d≤1099511627776) && (decide (-1099511627776≤n) && (decide (n≤1099511627776) && ((Nat.gcd n.natAbs d.toNat : Nat) : Int) == 1))))
 else if k = 3 then n == 0 && (d == 0 && (decide ((s.length : Int)≤16) && s.all dx))
 else false
def ix(k n d : Int)(s : List UInt8)(t : Int) : Bool :=
 dH k n d s && (decide (1≤t) && (decide (t≤4) && (if k = 0 then true else if k = 1 then t == 1 else if k = 2 then t == 3 || t == 2 && d == 1 else t == 4)))
theorem Kc(c : Int) : CallA Tryz.prog 281 [.one (.d (.int .i32 c))] [] (.one (.d (.bool (decide (c < 32) || decide (126 < c))))) []:=by
 refine enter af Tryz.func281 rfl (by decide +kernel) rfl fun hok w0 σ0 φ0 M=>?_
 repeat' (first|refine wG ?_|(refine h1H ?_; (refine h4H ?_; refine aC J J J J (fun h=>?_) (fun h=>?_))))
 all_goals (try (((simp_all [aj,List.drop_eq_nil_of_le]) <;> exact wL); done))
end Go.Proofs.YtpejdgkaapnekaaGreat
namespace Go.Abs
open Go
variable {P : Program} {V : Env} {T : Tab} {c : Ctx} {w0 : World} {σ0 : Sig} {φ0 : Pl} {M : Nat→Prop} {n : Nat} {rd : Option Nat} {mk : List Deferred} {ops : Array Oper} {o : Oper} {rest : List Oper} {fr : List (Nat×AV)} {sto : Sto} {K : St→Prop} {st st0 : St}
def cP(met : List (List UInt8)) : List (List D×List D):=met.map fun nm=>([.str nm],[.bool true])
theorem pg{s : List UInt8} : ∀ {met : List (List UInt8)} {i : Nat},(met.contains s = true→∃ j,ch [.str s] (cP met) i = some (j,[.bool true]))∧(met.contains s = false→ch [.str s] (cP met) i = none)
 | [],i=>by simp [cP,ch]
 | x::r,i=>by
   have ih:=pg (s:=s) (met:=r) (i:=i + 1)
   simp only [cP,List.map_cons,ch,b0,eqD,Bool.and_true,List.contains_cons] at ih ⊢
   cases hb : (s == x) with
   | true=>simp
   | false=>simpa [hb] using ih
theorem xD{s : List UInt8} : ∀ {met : List (List UInt8)},met.contains s = false→fV [.str s] [.bool true] (cP met) = cP (met ++ [s])
 | [],_=>rfl
 | x::r,h=>by
   simp only [List.contains_cons,Bool.or_eq_false_iff] at h
   have ih:=xD (s:=s) (met:=r) h.2
   simp only [cP,List.map_cons,fV,b0,eqD,Bool.and_true,List.cons_append,h.1,cond_false] at ih ⊢
   rw [ih]
theorem mC : ∀ {met : List (List UInt8)},fo [.str] (cP met) = true
 | []=>rfl
 | x::r=>by
   have ih:=mC (met:=r)
   simp only [cP,List.map_cons,fo,eE,AM,Bool.and_true,Bool.true_and] at ih ⊢
   exact ih
theorem CS(hV : EnvOk P V){d t id : Nat}{m : MTy}{x y : Operand}{s : List UInt8}{met : List (List UInt8)}(ho : o.op = .lookup t x y false)(hg : o.guard = none)(hdst : o.dst = some d)(hd : Nat.blt d n = true)
  (hm : look V.M t = some m) (hms : m.ks = [.str]) (hk : m.kg = false) (hv : m.vg = false) (hz : m.z = [.bool false])
  (hx : ev ⟨fr,sto⟩ x = some (.one (.mapr id))) (hl : look sto id = some (.map false false (cP met))) (hy : ev ⟨fr,sto⟩ y = some (.one (.d (.str s))))
  (h : aa P ⟨w0,σ0,φ0,M,n,rd,mk⟩ ops rest ⟨(d,.one (.d (.bool (met.contains s))))::fr,sto⟩ K) : aa P ⟨w0,σ0,φ0,M,n,rd,mk⟩ ops (o::rest) ⟨fr,sto⟩ K:=by
 refine ph (hV.M t m hm) ho hg (by rw [hdst]; exact hd) hx (es:=cP met) (by rw [hl,hk,hv]) hy (kd:=[.str s]) (by rw [hk]; rfl) (by rw [hms]; rfl) (by rw [hms]; exact mC) (v:=.one (.d (.bool (met.contains s)))) ?_ (by rw [hdst]; exact h)
 cases hb : met.contains s with
 | true =>
   obtain ⟨j,hj⟩:=(pg (i:=0)).1 hb
   simp only [p7,hj,hv,tS]; rfl
 | false =>
   simp only [p7,(pg (i:=0)).2 hb,hv,hz,tS]; rfl
theorem EG(hV : EnvOk P V){t id : Nat}{m : MTy}{x y z : Operand}{s : List UInt8}{met : List (List UInt8)}(ho : o.op = .mapUpdate t x y z)(hg : o.guard = none)(hdst : o.dst = none)
  (hm : look V.M t = some m) (hms : m.ks = [.str]) (hk : m.kg = false) (hv : m.vg = false)
  (hx : ev ⟨fr,sto⟩ x = some (.one (.mapr id))) (hl : look sto id = some (.map false false (cP met))) (hy : ev ⟨fr,sto⟩ y = some (.one (.d (.str s)))) (hz : ev ⟨fr,sto⟩ z = some (.one (.d (.bool true)))) (hnot : met.contains s = false)
  (h : aa P ⟨w0,σ0,φ0,M,n,rd,mk⟩ ops rest ⟨fr,bE id (.map false false (cP (met ++ [s]))) sto⟩ K) : aa P ⟨w0,σ0,φ0,M,n,rd,mk⟩ ops (o::rest) ⟨fr,sto⟩ K:=by
 refine ma (hV.M t m hm) ho hg hdst hx (es:=cP met) (by rw [hl,hk,hv]) hy (kd:=[.str s]) (by rw [hk]; rfl) (by rw [hms]; rfl) (by rw [hms]; exact mC) hz (vd:=[.bool true]) (by rw [hv]; rfl) ?_
 rw [xD hnot,hk,hv]
 exact h
theorem jF(k : Nat)(ρ : List (Nat×Nat)){d : Nat}{fop : Operand}{args : Array Operand}{ats : Array TypeId}{f : FuncId}{cargs : List AV}{cs rs : Sto}{rav rav' : AV}{sto' : Sto}(hC : CallA P f cargs cs rav rs)
  (ho : o.op = .call { callee:=.value fop,args:=args,argTypes:=ats }) (hg : o.guard = none) (hdst : o.dst = some d) (hd : Nat.blt d n = true) (hf : ev ⟨fr,sto⟩ fop = some (.one (.d (.fn f []))))
  (ha : evL ⟨fr,sto⟩ args.toList = some (cv (rn k ρ) cargs)) (hpass : Pass ⟨fr,sto⟩ (rn k ρ) ρ cs) (hcomp : CompatL ⟨fr,sto⟩ (rn k ρ) ρ rs)
  (hk : (eN ρ && gT ρ && fA cs ρ && eZ ρ && cb ρ rs && cR cs (cargs ++ []) && aV cs cs && cJ rs rav && aV rs rs && Nat.ble (k + 16) 1000000) = true) (hfresh : k4 k ⟨fr,sto⟩ = true)
  (hr : da (rn k ρ) rav = rav') (hs : di (rn k ρ) (eY ρ sto) rs = sto')
  (h : aa P ⟨w0,σ0,φ0,M,n,rd,mk⟩ ops rest ⟨(d,rav')::fr,sto'⟩ K) : aa P ⟨w0,σ0,φ0,M,n,rd,mk⟩ ops (o::rest) ⟨fr,sto⟩ K:=by
 subst hr; subst hs
 exact j7 k ρ ho hg (by rw [hdst]; exact hd) hf ha (caps:=[]) (by simpa using hC) hpass hcomp hk (nM hfresh) (by rw [hdst]; exact h)
theorem cE{α : Type}{body : Code}{Q : Exit→St→Prop}(rg : Nat)(hrg : iH body = rg)(kept : List (Nat×AV))(hk : SubL fr kept)(L : α→List (Nat×AV))(S : α→Sto)(Inv : α→Prop)(μ : α→Nat)(x0 : α)(hL : SubL fr (L x0))(hS : SubL sto (S x0))(h0 : Inv x0)
  (hround : ∀ x,Inv x→OkC P c body ⟨L x ++ kept,S x⟩ (ar (fun st'=>∃ y,Inv y∧μ y < μ x∧SubL st'.sto (S y)∧SubL st'.fr (L y)∧SubL st'.fr kept) Q)) : OkC P c (.loop body) ⟨fr,sto⟩ Q:=by
 have hap : ∀ {f a b : List (Nat×AV)},SubL f a→SubL f b→SubL f (a ++ b):=by
  intro f a b h1 h2
  induction a with
  | nil=>exact h2
  | cons p r ih=>exact ⟨h1.1,ih h1.2⟩
 have hdr : ∀ {f : List (Nat×AV)} {s s' : Sto},SubL s s'→Imp c ⟨f,s⟩ ⟨f,s'⟩:=fun h a w σ φ hr=>⟨σ,φ,hr.dropTo fun i e hi=>h.look hi⟩
 refine bL (st':=⟨L x0 ++ kept,S x0⟩) (Imp.trans (iF (hap hL hk)) (hdr hS)) ?_
 refine mO (fun n st=>∃ x,Inv x∧n = μ x∧st = ⟨L x ++ kept,S x⟩) (μ x0) ⟨x0,h0,rfl,rfl⟩ ?_
 rintro n st ⟨x,hx,rfl,rfl⟩
 refine iL (hround x hx) fun e st h=>?_
 cases e with
 | normal =>
   obtain ⟨y,hy,hlt,hs,h1,h2⟩:=h
   obtain ⟨f,s⟩:=st
   simp only at hs h1 h2
   exact ⟨μ y,_,hlt,⟨y,hy,rfl,rfl⟩,Imp.trans (iF (hap h1 h2)) (hdr hs)⟩
 | _=>exact h
theorem kS{t ty : TypeId}{x y : Operand}{k k' : IntKind}{a b : Int}(ho : o.op = .binOp .rem t x y ty)
  (hx : ev st x = some (.one (.d (.int k a)))) (hy : ev st y = some (.one (.d (.int k' b)))) (hk : kEq k k' = true) (ha : 0≤a) (h0 : 0 < b) : aG V st o 0 = some ⟨.one (.d (.int k (a % b))),[],[]⟩:=by
 rw [← Int.tmod_eq_emod_of_nonneg ha]
 exact ve ho hx hy hk (by omega)
theorem kT{t ty : TypeId}{x y : Operand}{k k' : IntKind}{a b : Int}(ho : o.op = .binOp .quo t x y ty)
  (hx : ev st x = some (.one (.d (.int k a)))) (hy : ev st y = some (.one (.d (.int k' b)))) (hk : kEq k k' = true) (ha : 0≤a) (h0 : 0 < b) (hz : k.wrap (a / b) = a / b) : aG V st o 0 = some ⟨.one (.d (.int k (a / b))),[],[]⟩:=by
 refine CT ho hx hy hk (by omega) ?_
 rw [Int.tdiv_eq_ediv_of_nonneg ha]
 exact hz
theorem cY{dl : List Nat}{ss : St}(h : sealL st dl = some ss) : Imp c st ss:=fun a w σ φ hr=>by
 obtain ⟨σs,_,h3,_⟩:=Rel.sealL h hr
 exact ⟨σs,φ,h3⟩
theorem aU(k : Nat){d : Nat}{fop : Operand}{args : Array Operand}{ats : Array TypeId}{f : FuncId}{caps : List D}{avs avs' : List AV}{rav rav' : AV}
  (ho : o.op = .call { callee:=.value fop,args:=args,argTypes:=ats }) (hg : o.guard = none) (hdst : o.dst = some d) (hd : Nat.blt d n = true) (hf : ev ⟨fr,sto⟩ fop = some (.one (.d (.fn f caps))))
  (ha : evL ⟨fr,sto⟩ args.toList = some avs) (hD : b9 avs = true) (hap : (avs ++ caps.map fun x=>.one (.d x)) = avs') (hC : CallA P f avs' [] rav [])
  (hk : (cb [] [] && Nat.ble (k + 16) 1000000 && cJ [] rav && aV [] []) = true) (hfresh : k4 k ⟨fr,sto⟩ = true) (hr : da (rn k []) rav = rav')
  (h : aa P ⟨w0,σ0,φ0,M,n,rd,mk⟩ ops rest ⟨(d,rav')::fr,sto⟩ K) : aa P ⟨w0,σ0,φ0,M,n,rd,mk⟩ ops (o::rest) ⟨fr,sto⟩ K:=by
 subst hap; subst hr
 exact Be k ho hg (by rw [hdst]; exact hd) hf ha hD hC hk (nM hfresh) (by rw [hdst]; exact h)
theorem bT(k : Nat){ops : Array Oper}{acc : List Tr}{d : Nat}{fop : Operand}{args : Array Operand}{ats : Array TypeId}{f : FuncId}{caps : List D}{avs avs' : List AV}{rav rav' : AV}
  (ho : o.op = .call { callee:=.value fop,args:=args,argTypes:=ats }) (hg : o.guard = none) (hdst : o.dst = some d) (hd : Nat.blt d c.n = true) (hf : ev ⟨fr,sto⟩ fop = some (.one (.d (.fn f caps))))
  (ha : evL ⟨fr,sto⟩ args.toList = some avs) (hD : b9 avs = true) (hap : (avs ++ caps.map fun x=>.one (.d x)) = avs') (hC : CallA P f avs' [] rav [])
  (hk : (cb [] [] && Nat.ble (k + 16) 1000000 && cJ [] rav && aV [] []) = true) (hr : da (rn k []) rav = rav')
  (h : ak P c ops st0 rest ⟨(d,rav')::fr,sto⟩ (lq k [] [] rav []::acc) K) : ak P c ops st0 (o::rest) ⟨fr,sto⟩ acc K:=by
 subst hap; subst hr
 refine lW hg (CL k ho (by rw [hdst]; exact hd) hf ha hD hC hk) ?_
 rw [hdst]; exact h
def rL(P : Program)(c : Ctx)(body : Code)(Q : Exit→St→Prop) : Nat→St→Prop
 | 0,_=>False
 | m + 1,st=>OkC P c body st (ar (fun st'=>rL P c body Q m st') Q)
theorem o6{body : Code}{Q : Exit→St→Prop}(rg : Nat)(hrg : iH body = rg)(m : Nat)(h : rL P c body Q m st) : OkC P c (.loop body) st Q:=by
 intro a w σ φ hr
 refine wpIn_loop_rounds m ?_
 have key : ∀ m st a w σ φ,rL P c body Q m st→Rel c st a w σ φ→Code.roundsIn (fnc c) 0 P body (fun e a' w'=>∃ st' σ' φ',Q e st'∧RelE c e st' a' w' σ' φ') m a w:=by
  intro m
  induction m with
  | zero=>intro st a w σ φ h; exact h.elim
  | succ m ih =>
    intro st a w σ φ h hr
    rw [roundsIn_succ]
    refine wpIn_mono (h a w σ φ hr) fun e a' w' ⟨st',σ',φ',h1,h2⟩=>?_
    cases e with
    | normal=>exact ih st' a' w' σ' φ' h1 (h2.rel (by simp))
    | _=>exact ⟨st',σ',φ',h1,h2⟩
 exact key m st a w σ φ h hr
theorem fY(hV : EnvOk P V)(id : Nat){d : Nat}{v : AV}{wr : List (Nat×Option AObj)}{nw : List Nat}(hg : o.guard = none)(hdst : o.dst = some d)(hd : Nat.blt d n = true)(h : aG V ⟨fr,sto⟩ o id = some ⟨v,wr,nw⟩)(hid : Nat.blt (id + 1) 1000000 = true)(hf : dp ⟨fr,sto⟩ nw = true)
  (hk : aa P ⟨w0,σ0,φ0,M,n,rd,mk⟩ ops rest ⟨(d,v)::fr,cm wr sto⟩ K) : aa P ⟨w0,σ0,φ0,M,n,rd,mk⟩ ops (o::rest) ⟨fr,sto⟩ K:=by
 have:=od (c:=⟨w0,σ0,φ0,M,n,rd,mk⟩) hV (o:=o) (by rw [hdst]; exact hd) h hid (dQ hf) ops rest K (by rw [hdst]; exact hk)
 rwa [zM hg] at this
theorem iI{T : Tab}{rs : List ResultVar}{rav rav' : AV}{rsto : Sto}{e : Exit}{st : St}{l : List (Bool×List AC)}(he : e = .ret∨e = .normal)(hl : lv T st rs = some l)(hr : nJ l = some rav')(h : rav' = rav)(hs : SubL st.sto rsto) : ax T rs rav rsto e st :=
 ⟨he,l,hl,by rw [hr,h],hs⟩
end Go.Abs
namespace Go.Abs
open Go
variable {P : Program} {V : Env} {T : Tab} {c : Ctx} {w0 : World} {σ0 : Sig} {φ0 : Pl} {M : Nat→Prop} {n : Nat} {rd : Option Nat} {mk : List Deferred} {ops : Array Oper} {o : Oper} {rest : List Oper} {fr : List (Nat×AV)} {sto : Sto} {K : St→Prop} {st st0 : St} {acc : List Tr}
variable {σ σ' : Sig} {φ φ' : Pl} {w w' : World}
def tP : AC→Bool
 | .own i _ | .sub i _ _ | .ref i _ | .rref i _ _ | .yl i | .mapr i | .bsl i _ _=>Nat.ble i 1000000
 | _=>true
def jR : List AC→Bool
 | []=>true
 | x::r=>tP x && jR r
def pZ : List (Bool×List AC)→Bool
 | []=>true
 | t::r=>jR t.2 && pZ r
def tQ : AV→Bool
 | .one x=>tP x
 | .agg cs=>jR cs
 | .tup ts=>pZ ts
 | .any=>true
def gP : List (Nat×AV)→Bool
 | []=>true
 | p::r=>tQ p.2 && gP r
def jS : Sto→Bool
 | []=>true
 | p::r=>(match p.2 with | .box cs=>jR cs | .loop _ fr _ _=>gP fr | _=>true) && jS r
theorem qI{x : AC}(h : tP x = true) : ∀ i,1000000 < i→x.men i = false:=by
 intro i hi
 have key : ∀ {j : Nat},Nat.ble j 1000000 = true→Nat.beq j i = false:=by
  intro j hj
  have:=Nat.le_of_ble_eq_true hj
  cases hb : Nat.beq j i with
  | false=>rfl
  | true=>have:=Nat.eq_of_beq_eq_true hb; omega
 cases x <;> first | rfl | exact key h
theorem jv : ∀ {l : List AC},jR l = true→∀ i,1000000 < i→bY i l = false
 | [],_,_,_=>rfl
 | x::r,h,i,hi=>by
   simp only [jR,Bool.and_eq_true] at h
   simp only [bY,qI h.1 i hi,jv h.2 i hi,Bool.or_self]
theorem qJ : ∀ {l : List (Bool×List AC)},pZ l = true→∀ i,1000000 < i→eU i l = false
 | [],_,_,_=>rfl
 | x::r,h,i,hi=>by
   simp only [pZ,Bool.and_eq_true] at h
   simp only [eU,jv h.1 i hi,qJ h.2 i hi,Bool.or_self]
theorem qK{x : AV}(h : tQ x = true) : ∀ i,1000000 < i→x.men i = false:=by
 intro i hi
 cases x with
 | one x=>exact qI h i hi
 | agg cs=>exact jv h i hi
 | tup ts=>exact qJ h i hi
 | any=>rfl
theorem o9 : ∀ {l : List (Nat×AV)},gP l = true→∀ {s : Nat} {v : AV},look l s = some v→tQ v = true
 | [],_,_,_,h=>by simp [look] at h
 | (t,x)::r,h,s,v,hl=>by
   simp only [gP,Bool.and_eq_true] at h
   rcases ag hl with ⟨_,rfl⟩ | ⟨_,hl⟩
   ·exact h.1
   ·exact o9 h.2 hl
theorem qL : ∀ {l : List (Nat×AV)},gP l = true→∀ i,1000000 < i→bh i l = false
 | [],_,_,_=>rfl
 | x::r,h,i,hi=>by
   simp only [gP,Bool.and_eq_true] at h
   simp only [bh,qK h.1 i hi,qL h.2 i hi,Bool.or_self]
theorem pa : ∀ {l : Sto},jS l = true→∀ {j : Nat} {e : AObj},look l j = some e→∀ i,1000000 < i→e.men i = false
 | [],_,_,_,h,_,_=>by simp [look] at h
 | (t,x)::r,h,j,e,hl,i,hi=>by
   simp only [jS,Bool.and_eq_true] at h
   rcases ag hl with ⟨_,rfl⟩ | ⟨_,hl⟩
   ·have h1:=h.1
    cases e with
    | box cs=>exact jv h1 i hi
    | loop li fr s q=>exact qL h1 i hi
    | _=>rfl
   ·exact pa h.2 hl i hi
theorem mz{α : Type} : ∀ {a b : List (Nat×α)} {i : Nat},look (a ++ b) i = match look a i with | some v=>some v | none=>look b i
 | [],_,_=>rfl
 | (j,x)::r,b,i=>by
   simp only [List.cons_append,look]
   cases Nat.beq j i with
   | true=>rfl
   | false=>simp only [cond_false]; exact mz
def gn(s : Sto) : Prop:=∀ i e,look s i = some e→1000000≤i
theorem gJ{o1 s : Sto}(hs : gn s){i : Nat}(hi : i < 1000000) : look (o1 ++ s) i = look o1 i:=by
 rw [mz]
 cases hl : look o1 i with
 | some v=>rfl
 | none =>
   simp only
   cases hl' : look s i with
   | none=>rfl
   | some e=>have:=hs _ _ hl'; omega
theorem dz{o1 s : Sto}(ho : eG 1000000 o1 = true){i : Nat}(hi : 1000000≤i) : look (o1 ++ s) i = look s i:=by
 rw [mz]
 cases hl : look o1 i with
 | none=>rfl
 | some e=>have:=ke ho hl; omega
theorem RepC.mv{x : AC}{v : Value}{s s2 : Sto}(h : ∀ i,x.men i = true→look s2 i = look s i∧φ' i = φ i)(hr : RepC σ φ s x v) : RepC σ φ' s2 x v:=by
 have hk : ∀ i,x.men i = true→aW s2 i = aW s i:=fun i hi=>by unfold aW; rw [(h i hi).1]
 cases hr with
 | d h1=>exact .d h1
 | junk h1=>exact .junk h1
 | dead hx h1 =>
   refine .dead ?_ h1
   cases x <;> simp only [bw] at hx ⊢ <;> first | exact hx | (rw [hk _ (Nat.beq_refl _)]; exact hx)
 | ownNil hl hp=>have:=h _ (Nat.beq_refl _); exact .ownNil (this.1.trans hl) (this.2.trans hp)
 | own hl hn hp=>have:=h _ (Nat.beq_refl _); exact .own (this.1.trans hl) hn (this.2.trans hp)
 | sub hl hn hc hA =>
   have:=h _ (Nat.beq_refl _)
   refine .sub (this.1.trans hl) hn hc fun h0=>?_
   obtain ⟨B,cap,h1,h2⟩:=hA h0
   exact ⟨B,cap,this.2.trans h1,h2⟩
 | ref hl hp=>have:=h _ (Nat.beq_refl _); exact .ref (this.1.trans hl) (this.2.trans hp)
 | rref hl hp=>have:=h _ (Nat.beq_refl _); exact .rref (this.1.trans hl) (this.2.trans hp)
 | yl hl hp=>have:=h _ (Nat.beq_refl _); exact .yl (this.1.trans hl) (this.2.trans hp)
 | mapr hl hp=>have:=h _ (Nat.beq_refl _); exact .mapr (this.1.trans hl) (this.2.trans hp)
 | bsl hl hp=>have:=h _ (Nat.beq_refl _); exact .bsl (this.1.trans hl) (this.2.trans hp)
theorem xy{x : AC}{s : Sto}(h : bw s x = true) : ∀ i,x.men i = true→aW s i = true:=by
 intro i hi
 cases x <;> simp only [AC.men,Bool.false_eq_true] at hi <;> (have:=Nat.eq_of_beq_eq_true hi; subst this; exact h)
theorem l9 : ∀ {l : List AC} {s : Sto},dK s l = true→∀ i,bY i l = true→aW s i = true
 | [],_,_,_,h=>by simp [bY] at h
 | x::r,s,h,i,hi=>by
   simp only [dK,Bool.and_eq_true] at h
   simp only [bY,Bool.or_eq_true] at hi
   rcases hi with hi | hi
   ·exact xy h.1 i hi
   ·exact l9 h.2 i hi
theorem xz : ∀ {l : List (Bool×List AC)} {s : Sto},tR s l = true→∀ i,eU i l = true→aW s i = true
 | [],_,_,_,h=>by simp [eU] at h
 | x::r,s,h,i,hi=>by
   simp only [tR,Bool.and_eq_true] at h
   simp only [eU,Bool.or_eq_true] at hi
   rcases hi with hi | hi
   ·exact l9 h.1 i hi
   ·exact xz h.2 i hi
theorem xA{x : AV}{s : Sto}(h : cJ s x = true) : ∀ i,x.men i = true→aW s i = true:=by
 intro i hi
 cases x with
 | one x=>exact xy h i hi
 | agg cs=>exact l9 h i hi
 | tup ts=>exact xz h i hi
 | any=>simp [AV.men] at hi
theorem xB : ∀ {l : List (Nat×AV)} {s : Sto},gW s l = true→∀ i,bh i l = true→aW s i = true
 | [],_,_,_,h=>by simp [bh] at h
 | x::r,s,h,i,hi=>by
   simp only [gW,Bool.and_eq_true] at h
   simp only [bh,Bool.or_eq_true] at hi
   rcases hi with hi | hi
   ·exact xA h.1 i hi
   ·exact xB h.2 i hi
theorem pb{s s2 : Sto} : ∀ {l : List AC} {vs : List Value},(∀ i,bY i l = true→look s2 i = look s i∧φ' i = φ i)→All2 (RepC σ φ s) l vs→All2 (RepC σ φ' s2) l vs
 | [],[],_,_=>trivial
 | x::r,v::vs,h,ha=>⟨RepC.mv (fun i hi=>h i (by simp [bY,hi])) ha.1,pb (fun i hi=>h i (by simp [bY,hi])) ha.2⟩
 | [],_::_,_,ha=>ha.elim
 | _::_,[],_,ha=>ha.elim
theorem Ga{s s2 : Sto}{t : Bool×List AC}{v : Value}(h : ∀ i,bY i t.2 = true→look s2 i = look s i∧φ' i = φ i)(hr : RepT σ φ s t v) : RepT σ φ' s2 t v:=by
 obtain ⟨b,cs⟩:=t
 cases b with
 | true=>obtain ⟨vs,rfl,h1⟩:=hr; exact ⟨vs,rfl,pb h h1⟩
 | false=>exact pb h hr
theorem FF{s s2 : Sto} : ∀ {l : List (Bool×List AC)} {vs : List Value},(∀ i,eU i l = true→look s2 i = look s i∧φ' i = φ i)→All2 (RepT σ φ s) l vs→All2 (RepT σ φ' s2) l vs
 | [],[],_,_=>trivial
 | x::r,v::vs,h,ha=>⟨Ga (fun i hi=>h i (by simp [eU,hi])) ha.1,FF (fun i hi=>h i (by simp [eU,hi])) ha.2⟩
 | [],_::_,_,ha=>ha.elim
 | _::_,[],_,ha=>ha.elim
theorem RepV.mv{x : AV}{v : Value}{s s2 : Sto}(h : ∀ i,x.men i = true→look s2 i = look s i∧φ' i = φ i)(hr : RepV σ φ s x v) : RepV σ φ' s2 x v:=by
 cases x with
 | one x=>exact RepC.mv h hr
 | agg cs=>obtain ⟨vs,rfl,h1⟩:=hr; exact ⟨vs,rfl,pb h h1⟩
 | tup ts=>obtain ⟨vs,rfl,h1⟩:=hr; exact ⟨vs,rfl,FF h h1⟩
 | any=>trivial
theorem rp{e : AObj}{s : Sto}(h : Ba s e = true) : ∀ i,e.men i = true→aW s i = true:=by
 intro i hi
 cases e with
 | box cs=>exact l9 h i hi
 | loop li fr st p=>exact xB h i hi
 | _=>simp [AObj.men] at hi
theorem sF : ∀ {fr : List (Nat×AV)} {s : Nat} {v : AV} {i : Nat},look fr s = some v→v.men i = true→bh i fr = true
  | [],_,_,_,h,_=>by simp [look] at h
  | (t,x)::r,s,v,i,h,hi=>by
    rcases ag h with ⟨_,rfl⟩ | ⟨_,h⟩
    ·simp [bh,hi]
    ·simp only [bh,sF h hi,Bool.or_true]
theorem ObjRep.mv{id : Nat}{e : AObj}{s s2 : Sto}(h : ∀ i,e.men i = true→look s2 i = look s i∧φ' i = φ i)(hφ : φ' id = φ id)(hr : ObjRep σ φ s w id e) : ObjRep σ φ' s2 w id e:=by
 cases e with
 | box cs =>
   obtain ⟨B,c,vs,t,h1,h2,h3,h4⟩:=hr
   exact ⟨B,c,vs,t,hφ.trans h1,h2,pb h h3,h4⟩
 | row k b xs =>
   rcases hr with ⟨h1,h2⟩ | ⟨B,cap,arr,t,vs,h1,h2⟩
   ·exact .inl ⟨h1,hφ.trans h2⟩
   ·exact .inr ⟨B,cap,arr,t,vs,hφ.trans h1,h2⟩
 | map kg vg es =>
   obtain ⟨B,c,ents,h1,h2⟩:=hr
   exact ⟨B,c,ents,hφ.trans h1,h2⟩
 | loop li fr st p =>
   obtain ⟨B,c,r,h1,h2,h3,h4,h5⟩:=hr
   refine ⟨B,c,r,hφ.trans h1,h2,h3,fun s v hv=>?_,h5⟩
   obtain ⟨u,hu,hru⟩:=h4 s v hv
   refine ⟨u,hu,RepV.mv (fun i hi=>h i ?_) hru⟩
   exact sF hv hi
theorem HInv.pinned{o1 s : Sto}(ho : eG 1000000 o1 = true)(hs : gn s)(hin : aV s s = true)(h : HInv σ φ (o1 ++ s) w) : HInv σ φ s w:=by
 have hl : ∀ {i : Nat},aW s i = true→look s i = look (o1 ++ s) i:=fun {i} hi=>by
  obtain ⟨e,he⟩:=gp hi
  rw [dz ho (hs _ _ he)]
 refine ⟨h.sig,fun i e hi=>?_,fun i i' e e' p p' hi hi'=>?_⟩
 ·refine ObjRep.mv (fun j hj=>⟨hl (rp (eH hin hi) j hj),rfl⟩) rfl (h.obj i e ?_)
  rw [dz ho (hs _ _ hi)]; exact hi
 ·exact h.inj _ _ _ _ _ _ (by rw [dz ho (hs _ _ hi)]; exact hi) (by rw [dz ho (hs _ _ hi')]; exact hi')
def ko(s : Sto) : Prop:=∃ li fr st p,look s 1000000 = some (.loop li fr st p)
theorem Rel.callW{o1 s s' : Sto}{a : Act}{rav : AV}{v : Value}{dst : Option Nat}(hr : Rel c ⟨fr,o1 ++ s⟩ a w σ φ)(hd : aB c.n dst = true)(ho : (eG 1000000 o1 && jS o1 && gP fr) = true)(hs : gn s)(hs' : gn s')(hin' : aV s' s' = true)
  (hlp : ko s) (hlp' : ko s') (hfl : ep rav = true) (hret : RetP rav s' w σ φ (MOf φ s) v w' σ' φ') : Rel c ⟨bc dst rav fr,o1 ++ s'⟩ (a.put dst v) w' σ' (fun i=>if 1000000≤i then φ' i else φ i):=by
 simp only [Bool.and_eq_true] at ho
 obtain ⟨⟨ho,hoc⟩,hfc⟩:=ho
 have hpin : ∀ i,1000000≤i→(fun i=>if 1000000≤i then φ' i else φ i) i = φ' i:=fun i hi=>by simp [hi]
 have hsm : ∀ i : Nat,i < 1000000→(fun i=>if 1000000≤i then φ' i else φ i) i = φ i:=by
  intro i hi
  have h9 : ¬ 1000000≤i:=by omega
  simp [h9]
 have hpn : φ' 1000000 = φ 1000000:=hret.pin 1000000 ⟨Nat.le_refl _,by omega⟩
 generalize hφ : (fun i=>if 1000000≤i then φ' i else φ i) = φn at hpin hsm ⊢
 have hold : ∀ {i e},look s i = some e→look (o1 ++ s) i = some e:=fun {i e} hi=>by rw [dz ho (hs _ _ hi)]; exact hi
 have hownl : ∀ {i e},look o1 i = some e→look (o1 ++ s) i = some e:=fun {i e} hi=>by rw [gJ hs (ke ho hi)]; exact hi
 have hM : ∀ b,MOf φ s b→∃ i e p,look (o1 ++ s) i = some e∧1000000≤i∧φ i = some p∧p.1 = b:=by
  rintro b ⟨i,e,p,h1,h2,h3⟩
  exact ⟨i,e,p,hold h1,hs _ _ h1,h2,h3⟩
 have hsplit : ∀ {i e},look (o1 ++ s') i = some e→(i < 1000000∧look o1 i = some e)∨(1000000≤i∧look s' i = some e):=by
  intro i e hi
  rcases Nat.lt_or_ge i 1000000 with h | h
  ·exact .inl ⟨h,by rwa [gJ hs' h] at hi⟩
  ·exact .inr ⟨h,by rwa [dz ho h] at hi⟩
 obtain ⟨li,lf,ls,lp,hL⟩:=hlp
 obtain ⟨li',lf',ls',lp',hL'⟩:=hlp'
 have hE : Ext (fun i=>1000000 < i) φ φn (o1 ++ s) (o1 ++ s'):=by
  intro i hi
  rcases Nat.lt_or_ge i 1000000 with h | h
  ·rw [gJ hs' h,gJ hs h]
   cases hl : look o1 i with
   | none=>exact .inl rfl
   | some e=>exact .inr ⟨e,rfl,hsm i h,e,rfl,compat.refl _⟩
  ·have : i = 1000000:=by omega
   subst this
   exact .inr ⟨.loop li lf ls lp,hold hL,(hpin _ (Nat.le_refl _)).trans hpn,.loop li' lf' ls' lp',by rw [dz ho (Nat.le_refl _)]; exact hL',trivial⟩
 have hnot : ∀ {i e p},look o1 i = some e→φ i = some p→¬ MOf φ s p.1:=by
  intro i e p hi hp hm
  obtain ⟨j,e',q,h1,h2,h3,h4⟩:=hM _ hm
  exact hr.inv.inj _ _ _ _ _ _ (hownl hi) h1 (by have:=ke ho hi; omega) hp h3 h4.symm
 have hinv : HInv σ' φn (o1 ++ s') w':=by
  refine ⟨hret.inv.sig,fun i e hi=>?_,fun i i' e e' p p' hi hi' hne hp hp'=>?_⟩
  ·rcases hsplit hi with ⟨h1,h2⟩ | ⟨h1,h2⟩
   ·have hob:=hr.inv.obj _ _ (hownl h2)
    refine hob.ext hret.le hE (fun j hj=>pa hoc h2 j hj) (hsm i h1) fun B cc hB=>?_
    have hlt:=hob.lt hB
    have hn:=hnot h2 hB
    refine ⟨hret.kept.block B hlt hn,?_⟩
    have hn0 : σ B = none:=by
     cases e with
     | box cs=>obtain ⟨_,_,_,_,q1,_,_,q4⟩:=hob; rw [hB] at q1; cases q1; exact q4
     | row k b xs =>
       rcases hob with ⟨_,q⟩ | ⟨_,_,_,_,_,q1,_,_,_,_,_,_,_,_,q4⟩
       ·rw [hB] at q; cases q
       ·rw [hB] at q1; cases q1; exact q4
     | map kg vg es=>obtain ⟨_,_,_,q1,_,_,q4⟩:=hob; rw [hB] at q1; cases q1; exact q4
     | loop li fr st p=>obtain ⟨_,_,_,q1,_,_,_,q4⟩:=hob; rw [hB] at q1; cases q1; exact q4
    rw [hn0]
    cases hσ : σ' B with
    | none=>rfl
    | some x =>
      rcases hret.fresh B (by rw [hσ]; simp) with q | q | q
      ·exact absurd hn0 q
      ·exact absurd hlt (by simp only at q ⊢; omega)
      ·exact absurd q hn
   ·refine ObjRep.mv (s:=s') (fun j hj=>?_) (hpin i h1) (hret.inv.obj _ _ h2)
    obtain ⟨e2,he2⟩:=gp (rp (eH hin' h2) j hj)
    have hj2:=hs' _ _ he2
    exact ⟨dz ho hj2,hpin j hj2⟩
  ·rcases hsplit hi with ⟨h1,h2⟩ | ⟨h1,h2⟩ <;> rcases hsplit hi' with ⟨h3,h4⟩ | ⟨h3,h4⟩
   ·rw [hsm i h1] at hp; rw [hsm i' h3] at hp'; exact hr.inv.inj _ _ _ _ _ _ (hownl h2) (hownl h4) hne hp hp'
   ·rw [hsm i h1] at hp; rw [hpin i' h3] at hp'
    rcases hret.mine _ _ _ h4 hp' with q | q
    ·have:=(hr.inv.obj _ _ (hownl h2)).lt hp; omega
    ·intro e0; exact hnot h2 hp (e0 ▸ q)
   ·rw [hpin i h1] at hp; rw [hsm i' h3] at hp'
    rcases hret.mine _ _ _ h2 hp with q | q
    ·have:=(hr.inv.obj _ _ (hownl h4)).lt hp'; omega
    ·intro e0; exact hnot h4 hp' (e0 ▸ q)
   ·rw [hpin i h1] at hp; rw [hpin i' h3] at hp'; exact hret.inv.inj _ _ _ _ _ _ h2 h4 hne hp hp'
 have hMc : ∀ {b},MOf φ s b→c.w0.heap.size≤b∨c.M b:=by
  intro b hb
  obtain ⟨j,e',q,h1,h2,h3,rfl⟩:=hM _ hb
  exact hr.mine _ _ _ h1 h3
 refine hr.putTo (st':=⟨fr,o1 ++ s'⟩) hd (Sig.le_trans hr.le hret.le) (fun b hb=>?_) hinv (fun i e p hi hp=>?_) ⟨hret.kept.os.trans hr.fra.os,hret.kept.tape.trans hr.fra.tape,hret.kept.output.trans hr.fra.output,Nat.le_trans hr.fra.size hret.kept.size,Nat.le_trans hr.fra.drawn hret.kept.drawn,fun b hb hM'=>?_⟩ (fun i hi=>(hpin i hi.1).trans ((hret.pin i hi).trans (hr.pin i hi)))
  (fun _=>pc hfl hret.rep) (fun t x _ hx=>⟨x,hx,fun z hz=>?_⟩)
 ·rcases hret.fresh b hb with q | q | q
  ·exact hr.fresh b q
  ·exact .inr (.inl (Nat.le_trans hr.fra.size q))
  ·exact .inr (hMc q)
 ·rcases hsplit hi with ⟨h1,h2⟩ | ⟨h1,h2⟩
  ·rw [hsm i h1] at hp; exact hr.mine _ _ _ (hownl h2) hp
  ·rw [hpin i h1] at hp
   rcases hret.mine _ _ _ h2 hp with q | q
   ·exact .inl (Nat.le_trans hr.fra.size q)
   ·exact hMc q
 ·rw [hret.kept.block b (Nat.lt_of_lt_of_le hb hr.fra.size) (fun hm=>?_)]
  ·exact hr.fra.block b hb hM'
  ·rcases hMc hm with q | q
   ·omega
   ·exact hM' q
 ·exact RepV.ext hret.le hE (fun i hi=>qK (o9 hfc hx) i hi) hz
theorem mA{o1 s : Sto}(ho : eG 1000000 o1 = true)(hs : gn s) : ∀ {avs : List AV} {vs : List Value},cR s avs = true→All2 (RepV σ φ (o1 ++ s)) avs vs→All2 (RepV σ φ s) avs vs
 | [],[],_,_=>trivial
 | x::r,v::vs,h,ha=>by
   simp only [cR,Bool.and_eq_true] at h
   refine ⟨RepV.mv (fun i hi=>⟨?_,rfl⟩) ha.1,mA ho hs h.2 ha.2⟩
   obtain ⟨e,he⟩:=gp (xA h.1 i hi)
   rw [dz ho (hs _ _ he)]
 | [],_::_,_,ha=>ha.elim
 | _::_,[],_,ha=>ha.elim
theorem zK(o1 : Sto){d : Nat}{s s' : Sto}{fop : Operand}{args : Array Operand}{ats : Array TypeId}{f : FuncId}{avs : List AV}{rav : AV}(hC : CallA P f avs s rav s')(hs : gn s)(hs' : gn s')(hin : aV s s = true)(hin' : aV s' s' = true)(hlp : ko s)(hlp' : ko s')
  (hsto : sto = o1 ++ s) (ho : o.op = .call { callee:=.value fop,args:=args,argTypes:=ats }) (hg : o.guard = none) (hdst : o.dst = some d) (hd : Nat.blt d n = true) (hf : ev ⟨fr,sto⟩ fop = some (.one (.d (.fn f []))))
  (ha : evL ⟨fr,sto⟩ args.toList = some avs) (hai : cR s avs = true) (hk : (eG 1000000 o1 && jS o1 && gP fr) = true) (hfl : ep rav = true)
  (h : aa P ⟨w0,σ0,φ0,M,n,rd,mk⟩ ops rest ⟨(d,rav)::fr,o1 ++ s'⟩ K) : aa P ⟨w0,σ0,φ0,M,n,rd,mk⟩ ops (o::rest) ⟨fr,sto⟩ K:=by
 subst hsto
 refine kc hg fun a w σ φ hr=>?_
 have hfr:=au hr hf
 replace hfr:=RepC.d_inv hfr
 generalize hfe : a.eval fop = fv at hfr
 have hk':=hk
 simp only [Bool.and_eq_true] at hk'
 cases hfr with
 | fn cs hl hcs =>
   have : cs = []:=by cases cs with | nil=>rfl | cons _ _=>simp at hl
   subst this
   have hargs:=mA hk'.1.1 hs hai (fP hr ha)
   refine ⟨f,_,_,nX ho hfe hC.fn,hC.run w σ φ _ (HInv.pinned hk'.1.1 hs hin hr.inv) (by rw [List.append_nil]; exact hargs),?_⟩
   rintro e w' ⟨v,σ',φ',rfl,hret⟩
   refine ⟨v,_,σ',_,rfl,hr.callW (dst:=o.dst) (by rw [hdst]; exact hd) hk hs hs' hin' hlp hlp' hfl hret,?_⟩
   rw [hdst]; exact h
theorem EE(o1 : Sto){d : Nat}{s s' : Sto}{fop : Operand}{args : Array Operand}{ats : Array TypeId}{avs : List AV}{rav : AV}(hY : YieldA P 1000000 avs s rav s')(hs : gn s)(hs' : gn s')(hin : aV s s = true)(hin' : aV s' s' = true)(hlp : ko s)(hlp' : ko s')
  (hsto : sto = o1 ++ s) (hrd : rd = none) (ho : o.op = .call { callee:=.value fop,args:=args,argTypes:=ats }) (hg : o.guard = none) (hdst : o.dst = some d) (hd : Nat.blt d n = true) (hf : ev ⟨fr,sto⟩ fop = some (.one (.yl 1000000)))
  (ha : evL ⟨fr,sto⟩ args.toList = some avs) (hai : cR s avs = true) (hk : (eG 1000000 o1 && jS o1 && gP fr) = true) (hfl : ep rav = true)
  (h : aa P ⟨w0,σ0,φ0,M,n,rd,mk⟩ ops rest ⟨(d,rav)::fr,o1 ++ s'⟩ K) : aa P ⟨w0,σ0,φ0,M,n,rd,mk⟩ ops (o::rest) ⟨fr,sto⟩ K:=by
 subst hsto
 intro a w σ φ Q hr hQ
 have hk':=hk
 simp only [Bool.and_eq_true] at hk'
 have hfr : RepC σ φ (o1 ++ s) (.yl 1000000) (a.eval fop):=au hr hf
 generalize hfe : a.eval fop = fv at hfr
 obtain ⟨li,lf,ls,lp,hL⟩:=hlp
 have hl0 : look (o1 ++ s) 1000000 = some (.loop li lf ls lp):=by rw [dz hk'.1.1 (Nat.le_refl _)]; exact hL
 cases hfr with
 | dead hxx _=>simp [bw,aW,hl0] at hxx
 | yl hl hp =>
   rename_i B cap li2 fr2 s2 p2
   obtain ⟨fn,tmps,assign,body,hy,hR⟩:=hY.run w σ φ _ B cap (HInv.pinned hk'.1.1 hs hin hr.inv) hp (mA hk'.1.1 hs hai (fP hr ha))
   refine wpListIn_plain hg fun K' hK=>⟨fun f _=>gy _ f,?_⟩
   rw [iO (by simp) (vc ho hfe hy),Oper.uponIn_round,gm (c:=⟨w0,σ0,φ0,M,n,rd,mk⟩) hrd]
   refine ⟨fun h=>by simp [Fence.wide] at h,hR.mono fun e w' he=>?_⟩
   obtain ⟨v,σ',φ',rfl,hret⟩:=he
   refine hK _ _ (h _ _ σ' (fun i=>if 1000000≤i then φ' i else φ i) _ ?_ hQ)
   have:=hr.callW (dst:=o.dst) (by rw [hdst]; exact hd) hk hs hs' hin' ⟨li,lf,ls,lp,hL⟩ hlp' hfl hret
   rw [hdst] at this ⊢; exact this
end Go.Abs
namespace Go.Abs
open Go
variable {P : Program} {V : Env} {T : Tab} {c : Ctx} {w0 : World} {σ0 : Sig} {φ0 : Pl} {M : Nat→Prop} {n : Nat} {rd : Option Nat} {mk : List Deferred} {ops : Array Oper} {o : Oper} {rest : List Oper} {fr : List (Nat×AV)} {sto : Sto} {K : St→Prop} {st st0 : St} {acc : List Tr}
theorem wM{t : TypeId}{x y : Operand}{a b v : AV}(ho : o.op = .index t x y)(hs : cx V.T st o 0 = none)(hx : ev st x = some a)(hy : ev st y = some b)(h : wN V.T t (some b) (some a) = some v) : aG V st o 0 = some ⟨v,[],[]⟩:=by
 simp only [aG,hs,ho,hx,hy,h]
theorem fz(hV : EnvOk P V)(id : Nat){d : Nat}{v : AV}{wr : List (Nat×Option AObj)}{nw : List Nat}(hg : o.guard = none)(hdst : o.dst = some d)(hd : Nat.blt d c.n = true)(h : aG V ⟨fr,sto⟩ o id = some ⟨v,wr,nw⟩)(hid : Nat.blt (id + 1) 1000000 = true)(hf : dp ⟨fr,sto⟩ nw = true)
  (k : ak P c ops st0 rest ⟨(d,v)::fr,cm wr sto⟩ (⟨v,wr,re ⟨fr,sto⟩ o.op,nw⟩::acc) K) : ak P c ops st0 (o::rest) ⟨fr,sto⟩ acc K :=
 lW hg (lT hV (by rw [hdst]; exact hd) h hid) (by rw [hdst]; exact k)
theorem tv(hV : EnvOk P V){v : AV}{wr : List (Nat×Option AObj)}(hg : o.guard = none)(hdst : o.dst = none)(h : aG V ⟨fr,sto⟩ o 0 = some ⟨v,wr,[]⟩)
  (k : ak P c ops st0 rest ⟨fr,cm wr sto⟩ (⟨v,wr,re ⟨fr,sto⟩ o.op,[]⟩::acc) K) : ak P c ops st0 (o::rest) ⟨fr,sto⟩ acc K :=
 lW hg (lT hV (by rw [hdst]; rfl) h rfl) (by rw [hdst]; exact k)
def OkR(P : Program)(c : Ctx)(bl : Nat)(g : Operand)(ps : Array Nat)(assign body rest : Code)(st : St)(Q : Exit→St→Prop) : Prop :=
 ∀ (a : Act) (w : World) (σ : Sig) (φ : Pl),Rel c st a w σ φ→(Code.block bl (.rangeFunc g ps assign body)).wpIn (fnc c) 0 P
   (Exit.then (rest.wpIn (fnc c) 0 P fun e a' w'=>∃ st' σ' φ',Q e st'∧RelE c e st' a' w' σ' φ') fun e a' w'=>∃ st' σ' φ',Q e st'∧RelE c e st' a' w' σ' φ') a w
def sd(R : St→Prop)(e : Exit)(st : St) : Prop:=e = .normal∧R st
theorem Hg{R : St→Prop}(h : R st) : sd R .normal st:=⟨rfl,h⟩
def wO(Q : Exit→St→Prop)(e : Exit)(st : St) : Prop:=e = .ret∧Q .ret st
theorem Hh{Q : Exit→St→Prop}(h : Q .ret st) : wO Q .ret st:=⟨rfl,h⟩
theorem Cq{bl : Nat}{g : Operand}{ps : Array Nat}{x assign body rest : Code}{Q : Exit→St→Prop}(h : OkC P c x st (sd fun st1=>OkR P c bl g ps assign body rest st1 Q)) : OkC P c (.seq (.seq x (.block bl (.rangeFunc g ps assign body))) rest) st Q:=by
 intro a w σ φ hr
 refine wpIn_seq (wpIn_seq (wpIn_mono (h a w σ φ hr) ?_))
 rintro e a1 w1 ⟨st1,σ1,φ1,⟨rfl,hR⟩,hre⟩
 exact hR a1 w1 σ1 φ1 (hre.rel (by simp))
theorem oN{g : Operand}{ps : Array Nat}{assign body rest : Code}{bl : Nat}{Q : Exit→St→Prop}{f : FuncId}{caps : List D}{os : List (Nat×AObj)}{rav : AV}{liR : LI}{frR : List (Nat×AV)}{s' : LoopState}{p' : Option Code}{rs : Sto}(ids : List Nat)(idl : Nat)
  (hrd : c.rd = none) (hmk : c.mks = []) (hg : ev st g = some (.one (.d (.fn f caps)))) (hos : gF st.sto ids = some os)
  (hC : CallA P f ((.one (.yl 1000000))::caps.map fun x=>.one (.d x)) ((1000000,.loop ⟨c.n,ps,assign,body⟩ (cC (inv 1000000 (idl::ids)) (bO ids st.fr [])) .ready none)::fR (inv 1000000 (idl::ids)) os) rav ((1000000,.loop liR frR s' p')::rs))
  (hb : oO st ids idl ⟨c.n,ps,assign,body⟩ os caps rav 1000000 liR frR s' p' rs = true)
  (h1 : p' = none→∀ c1,wP c c1→OkC P c1 rest ⟨st.fr,iK (idl + 1) (bz 1000000 (idl::ids)) rs st.sto⟩ (wO Q))
  (h2 : p' = some .ret→Q .ret ⟨st.fr,iK (idl + 1) (bz 1000000 (idl::ids)) rs st.sto⟩) : OkR P c bl g ps assign body rest st Q:=by
 intro a w σ φ hr
 unfold oO at hb
 simp only [Bool.and_eq_true,Bool.not_eq_true'] at hb
 obtain ⟨⟨⟨⟨⟨⟨⟨⟨hj,hall⟩,hni⟩,hcm⟩,hk⟩,hi⟩,hfr⟩,hbu⟩,hp⟩:=hb
 have hren : cC (rn (idl + 1) (bz 1000000 (idl::ids))) (cC (inv 1000000 (idl::ids)) (bO ids st.fr [])) = bO ids st.fr [] :=
  lR fun i hi=>oK (by simp only [bV,Bool.or_eq_true]; exact .inr (jj i hi))
 have hne : ∀ i∈ids,i≠idl:=by
  intro i hmem e
  rw [e] at hmem
  rw [memL_iff.2 hmem] at hni; cases hni
 have e : cC (rn (idl + 1) ((1000000,idl)::bz 1000001 ids)) (cC (inv 1000000 (idl::ids)) (bO ids st.fr [])) = bO ids st.fr []:=hren
 have hX:=uJ (P:=P) (c:=c) (st:=st) (g:=g) (ps:=ps) (assign:=assign) (body:=body) (k:=idl + 1) (idl:=idl) (ρ:=bz 1000001 ids) hrd hmk hg hC (fun s v hv=>by rw [e] at hv; exact (fN hv).2)
  (jb (s:=(idl,_)::st.sto) ((ja (s:=st.sto) fun i hi=>aA (hne i hi)).trans hos) hall)
  (gZ (s:=(idl,.loop ⟨c.n,ps,assign,body⟩ (bO ids st.fr []) .ready none)::st.sto) (fun j i _=>by
   show look ((idl,AObj.loop _ _ _ _)::st.sto) i = _
   rw [e]) hcm) hk (by
   rw [e]
   simp only [Bool.and_eq_true,Bool.not_eq_true']
   exact hi) (fun i h1 h2=>dQ hfr i (rng_mem.2 ⟨h1,h2⟩)) (by rintro rfl; cases hbu) (by
   unfold pOk at hp
   split at hp
   ·exact .inl rfl
   ·exact .inr rfl
   ·cases hp) a w σ φ hr
 refine wpIn_block (wpIn_mono hX ?_)
 rintro x a' w' (⟨hp0,rfl,c1,σ',φ',hg1,hr1⟩ | ⟨hp0,rfl,σ',φ',hr1⟩)
 ·have hc:=h1 hp0 c1 hg1 a' w' σ' φ' hr1
  have hf : fnc c1 = fnc c:=by rw [gm hg1.2.1,gm hrd]
  rw [hf] at hc
  refine wpIn_mono hc ?_
  rintro x a2 w2 ⟨s2,σ2,φ2,⟨rfl,hq⟩,hre⟩
  refine ⟨s2,σ2,φ2,hq,?_⟩
  rcases hre with h5 | ⟨_,r,_,_,_,h5⟩
  ·exact hg1.2.2.2 _ _ _ _ _ h5
  ·exact absurd h5.defers.symm hg1.2.2.1
 ·exact ⟨_,σ',φ',h2 hp0,hr1⟩
structure FamW {α : Type} (E : α→Sto) : Prop where
 big : ∀ a,gn (E a)
 ins : ∀ a,aV (E a) (E a) = true
 lp : ∀ a,ko (E a)
 nd : ∀ a,b5 (aP (E a)) = true
theorem zt{α : Type}{l : List (Nat×α)} : ∀ {t : List (Nat×α)},(∀ q∈t,look l q.1 = some q.2)→SubL l t
 | [],_=>trivial
 | (i,x)::t,h=>⟨h _ List.mem_cons_self,zt fun q hq=>h q (List.mem_cons_of_mem _ hq)⟩
theorem wQ : ∀ {s : Sto} {q : Nat×AObj},q∈s→bV q.1 (aP s) = true
 | p::r,q,h=>by
   obtain ⟨i,x⟩:=p
   rcases List.mem_cons.1 h with rfl | h
   ·simp [aP,bV]
   ·simp [aP,bV,wQ h]
theorem zu : ∀ {s : Sto},b5 (aP s) = true→∀ q∈s,look s q.1 = some q.2
 | (i,x)::r,h,q,hq=>by
   simp only [aP,b5,Bool.and_eq_true,Bool.not_eq_true'] at h
   rcases List.mem_cons.1 hq with rfl | hq
   ·simp [look]
   ·have hm:=wQ hq
    have hne : Nat.beq i q.1 = false:=by
     cases hb : Nat.beq i q.1 with
     | false=>rfl
     | true =>
       have:=Nat.eq_of_beq_eq_true hb
       subst this
       rw [h.1] at hm; cases hm
    simp only [look,hne,cond_false]
    exact zu h.2 q hq
theorem D3{o1 s : Sto}(ho : eG 1000000 o1 = true)(hs : gn s)(hn : b5 (aP s) = true) : SubL (o1 ++ s) s :=
 zt fun q hq=>by
  have h:=zu hn q hq
  rw [dz ho (hs _ _ h)]; exact h
theorem FX{α β : Type}{E : α→Sto}(hE : FamW E)(g : β→α){body : Code}{Q : Exit→St→Prop}(o1 : Sto)(kept : List (Nat×AV))(hk : SubL fr kept)(L : β→List (Nat×AV))(Inv : β→Prop)(μ : β→Nat)(x0 : β)(hsto : sto = o1 ++ E (g x0))(ho : eG 1000000 o1 = true)(hL : SubL fr (L x0))(h0 : Inv x0)
  (hround : ∀ x,Inv x→OkC P c body ⟨L x ++ kept,o1 ++ E (g x)⟩ (ar (fun st'=>∃ y o2,Inv y∧μ y < μ x∧st'.sto = o2 ++ E (g y)∧eG 1000000 o2 = true∧SubL o2 o1∧SubL st'.fr (L y)∧SubL st'.fr kept) Q)) : OkC P c (.loop body) ⟨fr,sto⟩ Q:=by
 subst hsto
 have hap : ∀ {f a b : List (Nat×AV)},SubL f a→SubL f b→SubL f (a ++ b):=by
  intro f a b h1 h2
  induction a with
  | nil=>exact h2
  | cons p r ih=>exact ⟨h1.1,ih h1.2⟩
 have hdr : ∀ {f : List (Nat×AV)} {o2 s : Sto},gn s→eG 1000000 o2 = true→SubL o2 o1→Imp c ⟨f,o2 ++ s⟩ ⟨f,o1 ++ s⟩:=fun hs h2 h a w σ φ hr=>⟨σ,φ,hr.dropTo fun i e hi=>by
  show look (_ ++ _) i = some e
  rcases Nat.lt_or_ge i 1000000 with h3 | h3
  ·rw [gJ hs h3] at hi ⊢; exact h.look hi
  ·rw [dz ho h3] at hi; rw [dz h2 h3]; exact hi⟩
 refine bL (st':=⟨L x0 ++ kept,o1 ++ E (g x0)⟩) (iF (hap hL hk)) ?_
 refine mO (fun n st=>∃ x,Inv x∧n = μ x∧st = ⟨L x ++ kept,o1 ++ E (g x)⟩) (μ x0) ⟨x0,h0,rfl,rfl⟩ ?_
 rintro n st ⟨x,hx,rfl,rfl⟩
 refine iL (hround x hx) fun e st h=>?_
 cases e with
 | normal =>
   obtain ⟨y,o2,hy,hlt,hs,h4,h5,h1,h2⟩:=h
   obtain ⟨f,s⟩:=st
   simp only at hs h1 h2
   subst hs
   exact ⟨μ y,_,hlt,⟨y,hy,rfl,rfl⟩,Imp.trans (iF (hap h1 h2)) (hdr (hE.big (g y)) h4 h5)⟩
 | _=>exact h
def rm(r : Nat→Nat) : List Nat→Bool
 | []=>true
 | i::l=>(!(Nat.ble 1000000 (r i) && Nat.blt (r i) 2000000) || Nat.beq (r i) i) && rm r l
theorem tw{r : Nat→Nat} : ∀ {l : List Nat},rm r l = true→∀ {i : Nat},i∈l→Pin (r i)→r i = i
 | j::l,h,i,hi,hb=>by
   simp only [rm,Bool.and_eq_true,Bool.or_eq_true,Bool.not_eq_true'] at h
   rcases List.mem_cons.1 hi with rfl | hi
   ·rcases h.1 with h1 | h1
    ·rw [Nat.ble_eq.mpr hb.1,Nat.blt_eq.mpr hb.2] at h1; cases h1
    ·exact Nat.eq_of_beq_eq_true h1
   ·exact tw h.2 hi hb
theorem pK(r : Nat→Nat)(hk : (b5 (aP sto) && b5 (gV r (aP sto)) && rm r (aP sto) && aV sto sto && gW sto fr) = true) : Imp c ⟨fr,sto⟩ ⟨cC r fr,fc r sto⟩:=by
 intro a w σ φ hr
 simp only [Bool.and_eq_true] at hk
 obtain ⟨⟨⟨⟨h1,h2⟩,h3⟩,h4⟩,h5⟩:=hk
 classical
 let φ' : Pl:=fun t=>if h : ∃ i,i∈aP sto∧r i = t then φ h.choose else φ t
 have hφ : ∀ {i : Nat},i∈aP sto→φ' (r i) = φ i:=by
  intro i hi
  have hex : ∃ j,j∈aP sto∧r j = r i:=⟨i,hi,rfl⟩
  show (if h : ∃ j,j∈aP sto∧r j = r i then φ h.choose else φ (r i)) = φ i
  rw [dif_pos hex]
  have:=hex.choose_spec
  rw [lX h2 this.1 hi this.2]
 have hR : ∀ j o,look sto j = some o→look (fc r sto) (r j) = some (b8 r o)∧φ' (r j) = φ j:=fun j o hj=>⟨lY h2 hj,hφ (lu hj)⟩
 refine ⟨σ,φ',hr.le,hr.fresh,⟨hr.inv.sig,fun t e ht=>?_,fun t t' e e' p p' ht ht' hne hp hp'=>?_⟩,fun t e p ht hp=>?_,fun s v hv=>?_,hr.defers,hr.size,hr.fra,fun t ht=>?_⟩
 ·obtain ⟨i,o,rfl,hi,rfl⟩:=c5 h1 ht
  exact vX hR hi (eH h4 hi) (hr.inv.obj _ _ hi)
 ·obtain ⟨i,o,rfl,hi,rfl⟩:=c5 h1 ht
  obtain ⟨i',o',rfl,hi',rfl⟩:=c5 h1 ht'
  rw [(hR _ _ hi).2] at hp
  rw [(hR _ _ hi').2] at hp'
  exact hr.inv.inj _ _ _ _ _ _ hi hi' (fun e=>hne (by rw [e])) hp hp'
 ·obtain ⟨i,o,rfl,hi,rfl⟩:=c5 h1 ht
  rw [(hR _ _ hi).2] at hp
  exact hr.mine _ _ _ hi hp
 ·rw [jk] at hv
  cases hl : look fr s with
  | none=>rw [hl] at hv; cases hv
  | some v0 =>
    rw [hl] at hv; cases hv
    obtain ⟨u,hu,hru⟩:=hr.slot s v0 hl
    exact ⟨u,hu,reV hR (kp h5 hl) hru⟩
 ·show (if h : ∃ j,j∈aP sto∧r j = t then φ h.choose else φ t) = _
  split
  ·rename_i hex
   have hs:=hex.choose_spec
   have:=tw h3 hs.1 (by rw [hs.2]; exact ht)
   rw [hs.2] at this
   rw [← this]; exact hr.pin t ht
  ·exact hr.pin t ht
theorem se{i : Nat} : ∀ {a b : Sto},ay i (a ++ b) = (ay i a || ay i b)
 | [],_=>by simp [ay]
 | p::r,b=>by simp only [List.cons_append,ay,se (a:=r),Bool.or_assoc]
theorem sf{s t : Sto}(hs : gn s){i : Nat}(hi : i < 1000000) : ∀ {l : Sto},aV s l = true→ay i l = false
 | [],_=>rfl
 | (j,e)::r,h=>by
   simp only [aV,Bool.and_eq_true] at h
   simp only [ay]
   rw [sf (t:=t) hs hi h.2,Bool.or_false]
   cases hm : e.men i with
   | false=>rfl
   | true =>
     obtain ⟨e',he⟩:=gp (rp h.1 i hm)
     have:=hs _ _ he; omega
theorem Cr{o1 s : Sto}(hs : gn s)(hin : aV s s = true){id : Nat}(h : (Nat.blt id 1000000 && (!aW o1 id && !bh id fr && !ay id o1)) = true) : (Nat.blt id 1000000 && (!aW (o1 ++ s) id && !bh id fr && !ay id (o1 ++ s))) = true:=by
 simp only [Bool.and_eq_true,Bool.not_eq_true',Nat.blt_eq] at h ⊢
 obtain ⟨h1,⟨h2,h3⟩,h4⟩:=h
 refine ⟨h1,⟨?_,h3⟩,?_⟩
 ·unfold aW at h2 ⊢; rw [gJ hs h1]; exact h2
 ·rw [se,h4,sf (t:=s) hs h1 hin]; rfl
theorem Hi(o1 : Sto)(id : Nat){s : Sto}(hs : gn s)(hin : aV s s = true){d : Nat}{t : TypeId}{x : Operand}{v : AV}{cs : List AC}(hsto : sto = o1 ++ s)(ho : o.op = .box t x)(hg : o.guard = none)(hdst : o.dst = some d)(hdn : Nat.blt d n = true)(hd : (Nat.blt id 1000000 && (!aW o1 id && !bh id fr && !ay id o1)) = true)
  (hx : ev ⟨fr,sto⟩ x = some v) (hc : (match cellsOf v with | some cs'=>bif bY id cs' then none else some cs' | none=>none) = some cs)
  (h : aa P ⟨w0,σ0,φ0,M,n,rd,mk⟩ ops rest ⟨(d,.one (.ref id 0))::fr,(id,.box cs)::sto⟩ K) : aa P ⟨w0,σ0,φ0,M,n,rd,mk⟩ ops (o::rest) ⟨fr,sto⟩ K:=by
 subst hsto
 exact vY id ho hg hdst (by rw [hdn,Bool.true_and]; exact Cr hs hin hd) hx hc h
theorem D4(hT : aI P T)(o1 : Sto)(id : Nat){s : Sto}(hs : gn s)(hin : aV s s = true){d : Nat}{t : TypeId}{td : TD}(hsto : sto = o1 ++ s)(ho : o.op = .alloc t)(hg : o.guard = none)(hdst : o.dst = some d)(hdn : Nat.blt d n = true)(hd : (Nat.blt id 1000000 && (!aW o1 id && !bh id fr && !ay id o1)) = true)(ht : look T t = some td)
  (h : aa P ⟨w0,σ0,φ0,M,n,rd,mk⟩ ops rest ⟨(d,.one (.ref id 0))::fr,(id,.box (td.zero.map .d))::sto⟩ K) : aa P ⟨w0,σ0,φ0,M,n,rd,mk⟩ ops (o::rest) ⟨fr,sto⟩ K:=by
 subst hsto
 exact gK hT id ho hg hdst (by rw [hdn,Bool.true_and]; exact Cr hs hin hd) ht h
theorem Fx{s : Sto}(h : ko s) : aW s 1000000 = true:=by
 obtain ⟨li,fr,st,p,h⟩:=h
 simp [aW,h]
theorem oP{rs : List ResultVar}{rav rav' : AV}{rsto s : Sto}{e : Exit}{l : List (Bool×List AC)}(o1 : Sto)(he : e = .ret∨e = .normal)(hsto : sto = o1 ++ s)(hl : lv T ⟨fr,sto⟩ rs = some l)(hr : nJ l = some rav')(h : rav' = rav∧s = rsto)(ho : eG 1000000 o1 = true)(hs : gn s)(hn : b5 (aP s) = true) : ax T rs rav rsto e ⟨fr,sto⟩:=by
 obtain ⟨h1,rfl⟩:=h
 subst hsto
 exact ⟨he,l,hl,by rw [hr,h1],D3 ho hs hn⟩
def iM(P : Program)(id : Nat)(c : Ctx)(body : Code)(rav : AV)(rsto : Sto)(e : Exit)(st : St) : Prop :=
 e = .normal∧∃ li1 fr1,look st.sto id = some (.loop li1 fr1 .ready none)∧OkC P c body ⟨st.fr,bE id (.loop li1 fr1 .busy none) st.sto⟩ (cr id rav rsto)
theorem D5{id : Nat}{body : Code}{rav : AV}{rsto : Sto}{li1 : LI}{fr1 : List (Nat×AV)}(hl : look st.sto id = some (.loop li1 fr1 .ready none))(h : OkC P c body ⟨st.fr,bE id (.loop li1 fr1 .busy none) st.sto⟩ (cr id rav rsto)) : iM P id c body rav rsto .normal st:=⟨rfl,_,_,hl,h⟩
theorem fe{id : Nat}{rav : AV}{rsto : Sto}{li : LI}{fr1 : List (Nat×AV)}{p : Option Code}(hl : look st.sto id = some (.loop li fr1 .busy p))(hr : rav = .one (.d (.bool true)))(hs : SubL (bE id (.loop li fr1 .ready none) st.sto) rsto) : cr id rav rsto .normal st :=
 ⟨li,fr1,p,hl,.inl ⟨rfl,hr,hs⟩⟩
theorem mP{id : Nat}{rav : AV}{rsto : Sto}{li : LI}{fr1 : List (Nat×AV)}{p : Option Code}{e : Exit}{j : Code}(hl : look st.sto id = some (.loop li fr1 .busy p))(hj : wR e = some j)(hr : rav = .one (.d (.bool false)))(hs : SubL (bE id (.loop li fr1 .done (some j)) st.sto) rsto) : cr id rav rsto e st :=
 ⟨li,fr1,p,hl,.inr ⟨j,hj,hr,hs⟩⟩
theorem oQ{id : Nat}{li : LI}{fr : List (Nat×AV)}{args : List AV}{sto : Sto}{rav : AV}{rsto : Sto}(hid : Pin id)(hl : look sto id = some (.loop li fr .ready none))
  (hps : (hU li.n li.params.toList && Nat.beq li.params.toList.length args.length) = true)
  (h : ∀ (w0 : World) (σ0 : Sig) (φ0 : Pl) (M : Nat→Prop) (B : Nat),OkC P ⟨w0,σ0,φ0,M,li.n,some B,[]⟩ li.assign ⟨ff li.params.toList args fr,sto⟩ (iM P id ⟨w0,σ0,φ0,M,li.n,some B,[]⟩ li.body rav rsto)) : YieldA P id args sto rav rsto:=oR hid hl hps h
end Go.Abs
