import Derived.Test.YtpejdgkaapnekaaGreatVP20
set_option linter.unusedVariables false
set_option linter.unusedSimpArgs false
set_option linter.unnecessarySimpa false
set_option maxHeartbeats 1000000
namespace Go.Abs
open Go
variable {P : Program} {c : Ctx} {fr : List (Nat×AV)} {sto : Sto}
def nmA(b : Bool×Bool) : Nat:=bif b.1 then 11 else 10
def nmB(b : Bool×Bool) : Nat:=bif b.2 then 13 else 12
def qN(i : Nat) : Nat:=bif Nat.beq i 11 then 10 else bif Nat.beq i 13 then 12 else i
theorem wX{α : Type}{f a b : List (Nat×α)}(h1 : SubL f a)(h2 : SubL f b) : SubL f (a ++ b):=by
 induction a with
 | nil=>exact h2
 | cons p r ih=>exact ⟨h1.1,ih h1.2⟩
theorem tz{f f' : List (Nat×AV)}{s s' : Sto}(hf : SubL f f')(hs : SubL s s') : Imp c ⟨f,s⟩ ⟨f',s'⟩:=Imp.trans (iF hf) (wY hs)
theorem pJ{α : Type}{body : Code}{Q : Exit→St→Prop}(rg : Nat)(hrg : iH body = rg){fr1 : List (Nat×AV)}{sto1 : Sto}(ha : Imp c ⟨fr,sto⟩ ⟨fr1,sto1⟩)(kept : List (Nat×AV))(hk : SubL fr1 kept)(L : Bool×Bool→α→List (Nat×AV))(S : Bool×Bool→α→Sto)(Inv : α→Prop)(μ : α→Nat)(x0 : α)
  (hL : SubL fr1 (L (false,false) x0)) (hS : SubL sto1 (S (false,false) x0)) (hq : ∀ b y,Imp c ⟨L b y ++ kept,S b y⟩ ⟨L (false,false) y ++ kept,S (false,false) y⟩) (h0 : Inv x0)
  (hround : ∀ x,Inv x→OkC P c body ⟨L (false,false) x ++ kept,S (false,false) x⟩ (ar (fun st'=>∃ y b,Inv y∧μ y < μ x∧SubL st'.sto (S b y)∧SubL st'.fr (L b y)∧SubL st'.fr kept) Q)) : OkC P c (.loop body) ⟨fr,sto⟩ Q:=by
 refine bL (st':=⟨L (false,false) x0 ++ kept,S (false,false) x0⟩) (Imp.trans ha (tz (wX hL hk) hS)) ?_
 refine mO (fun n st=>∃ x,Inv x∧n = μ x∧st = ⟨L (false,false) x ++ kept,S (false,false) x⟩) (μ x0) ⟨x0,h0,rfl,rfl⟩ ?_
 rintro n st ⟨x,hx,rfl,rfl⟩
 refine iL (hround x hx) fun e st h=>?_
 cases e with
 | normal =>
   obtain ⟨y,b,hy,hlt,hs,h1,h2⟩:=h
   obtain ⟨f,s⟩:=st
   simp only at hs h1 h2
   exact ⟨μ y,_,hlt,⟨y,hy,rfl,rfl⟩,Imp.trans (tz (wX h1 h2) hs) (hq b y)⟩
 | _=>exact h
section
variable {w0 : World} {σ0 : Sig} {φ0 : Pl} {M : Nat→Prop} {n : Nat} {rd : Option Nat} {mk : List Deferred} {ops : Array Oper} {o : Oper} {rest : List Oper} {K : St→Prop} {st0 : St} {acc : List Tr}
theorem dW(k : Nat)(dl : List Nat){ss : St}{d : Nat}{fop : Operand}{args : Array Operand}{ats : Array TypeId}{f : FuncId}{caps : List D}{avs avs' : List AV}{rav rav' : AV}
  (ho : o.op = .call { callee:=.value fop,args:=args,argTypes:=ats }) (hg : o.guard = none) (hdst : o.dst = some d) (hd : Nat.blt d n = true) (hss : sealL ⟨fr,sto⟩ dl = some ss) (hf : ev ss fop = some (.one (.d (.fn f caps))))
  (ha : evL ss args.toList = some avs) (hD : b9 avs = true) (hap : (avs ++ caps.map fun x=>.one (.d x)) = avs') (hC : CallA P f avs' [] rav [])
  (hk : (cb [] [] && Nat.ble (k + 16) 1000000 && cJ [] rav && aV [] []) = true) (hfresh : k4 k ⟨fr,dq dl sto⟩ = true) (hr : da (rn k []) rav = rav')
  (h : aa P ⟨w0,σ0,φ0,M,n,rd,mk⟩ ops rest ⟨(d,rav')::fr,dq dl sto⟩ K) : aa P ⟨w0,σ0,φ0,M,n,rd,mk⟩ ops (o::rest) ⟨fr,sto⟩ K:=by
 subst hap; subst hr
 exact j9 k dl ho hg (by rw [hdst]; exact hd) hss hf ha hD hC hk (nM hfresh) (by rw [hdst]; exact h)
theorem pM(k : Nat)(dl : List Nat){os : List (Nat×AObj)}{d : Nat}{fop : Operand}{args : Array Operand}{ats : Array TypeId}{f : FuncId}{caps : List D}{avs avs' : List AV}{rav rav' : AV}
  (ho : o.op = .call { callee:=.value fop,args:=args,argTypes:=ats }) (hg : o.guard = none) (hdst : o.dst = some d) (hd : Nat.blt d c.n = true) (hos : db sto dl = some os) (hf : evS os ⟨fr,sto⟩ fop = some (.one (.d (.fn f caps))))
  (ha : jJ os ⟨fr,sto⟩ args.toList = some avs) (hD : b9 avs = true) (hap : (avs ++ caps.map fun x=>.one (.d x)) = avs') (hC : CallA P f avs' [] rav [])
  (hk : (cb [] [] && Nat.ble (k + 16) 1000000 && cJ [] rav && aV [] []) = true) (hr : da (rn k []) rav = rav')
  (h : ak P c ops st0 rest ⟨(d,rav')::fr,cm (nG dl) sto⟩ (lq k dl dl rav []::acc) K) : ak P c ops st0 (o::rest) ⟨fr,sto⟩ acc K:=by
 subst hap; subst hr
 refine lW hg (uF k dl ho (by rw [hdst]; exact hd) hos hf ha hD hC hk) ?_
 rw [hdst]; exact h
end
theorem iy{V : Env}{st : St}{o : Oper}{id i n k b k' b' : Nat}{t t2 : TypeId}{x y : Operand}{v : AV}{xs ys : List (List D)}{e : TypeId}{z : List D}{q : TypeId×Nat×Nat×List D}
  (ho : o.op = .call { callee:=.builtin .append,args:=⟨[x,y]⟩,argTypes:=⟨[t,t2]⟩ }) (ht : aH V.T t = some (e,k,b,z)) (ht2 : aH V.T t2 = some q) (hx : ev st x = some (.one (.own i n))) (hl : look st.sto i = some (.row k' b' xs))
  (hkb : (Nat.beq k k' && Nat.beq b b') = true) (hy : ev st y = some v) (hs : eu st k v = some ys) (hn : n≤100000000) (hys : ys.length≤10000000) (hb : b≤100) :
  aG V st o id = some ⟨.one (.own id (n + ys.length)),[(id,some (.row k b (xs.take n ++ ys))),(i,none)],[id]⟩ :=
 wZ ho ht ht2 hx hl hkb hy hs (by omega) (Nat.le_trans (Nat.mul_le_mul (show n + ys.length≤110000000 by omega) hb) (by omega))
end Go.Abs
namespace Go.Abs
open Go
variable {V : Env} {st : St} {o : Oper}
end Go.Abs
namespace Go.Abs
open Go
variable {P : Program} {V : Env} {st : St} {o : Oper}
theorem py{t e : TypeId}{x y : Operand}{id m k k' b b' : Nat}{ik : IntKind}{i : Int}{xs : List (List D)}{z : List D}(ho : o.op = .indexAddr t x y)(ht : aH V.T t = some (e,k',b',z))(hx : ev st x = some (.one (.own id m)))
  (hl : look st.sto id = some (.row k b xs)) (hk : Nat.beq k k' = true) (hy : ev st y = some (.one (.d (.int ik i)))) (h0 : 0≤i) (hm : i < (m : Int)) : aG V st o 0 = some ⟨.one (.rref id i.toNat 0),[],[]⟩:=by
 simp only [aG,cx,bQ,ho,cg,nP,hx,hy,ht,hl,hk,h0,hm,decide_true,Bool.and_self,cond_true]
theorem cS{t : TypeId}{x : Operand}{id j off k b s : Nat}{g : Bool}{xs : List (List D)}{el : List D}{v : AV}(ho : o.op = .load t x)(hx : ev st x = some (.one (.rref id j off)))(hT : gY V.T t = some (g,s))
  (hl : look st.sto id = some (.row k b xs)) (hj : xs[j]? = some el) (hv : eJ g s ((el.drop off).map .d) = some v) : aG V st o 0 = some ⟨v,[],[]⟩:=by
 simp only [aG,cx,bQ,ho,cg,hx,hT,hl,kf,lA,fu,hj,hv]
theorem dY{t : TypeId}{x y : Operand}{id j off k b s : Nat}{g : Bool}{xs : List (List D)}{el el' ds : List D}{cs : List AC}{v : AV}(ho : o.op = .store t x y)(hd : o.dst = none)(hx : ev st x = some (.one (.rref id j off)))(hy : ev st y = some v)(hT : gY V.T t = some (g,s))
  (hl : look st.sto id = some (.row k b xs)) (hc : cellsOf v = some cs) (hs : Nat.beq cs.length s = true) (ha : ez cs = some ds) (hj : xs[j]? = some el) (hsp : cy off ds el = some el') : aG V st o 0 = some ⟨.any,[(id,some (.row k b (xs.set j el')))],[]⟩:=by
 simp only [aG,cx,bQ,ho,cg,hx,hy,hT,hl,hc,hs,ha,lB,fu,hj,hsp,cond_true]
 simp [hd,fS]
theorem uc{xs : List (List D)}{j : Nat}{el : List D}(h : j < xs.length) : (xs.set j el)[j]? = some el:=by simp [h]
theorem fa{α : Type}[Inhabited α]{f : α→List D}{l : List α}{xs : List (List D)}{i : Nat}(h : xs = l.map f)(hi : i < xs.length) : xs[i]? = some (f (at_ l i)):=by
 subst h; exact ji (by simpa using hi)
theorem cK{t e : TypeId}{x y : Operand}{id n k b d : Nat}{i j : Int}{z : List D}(ho : o.op = .makeSlice t x y)(hd : o.dst = some d)(ht : aH V.T t = some (e,k,b,z))(hx : ev st x = some (.one (.d (.int .i64 i))))(hy : ev st y = some (.one (.d (.int .i64 j))))(hi : i = (n : Int))(hj : j = (n : Int))(hn : n≤1000)(hb : b≤100) :
  aG V st o id = some ⟨.one (.own id n),[(id,some (.row k b (List.replicate n z)))],[id]⟩:=by
 subst hi; subst hj
 have h1 : Nat.ble (n * b) 1000000 = true:=Nat.ble_eq.mpr (Nat.le_trans (Nat.mul_le_mul hn hb) (by omega))
 have h2 : Nat.ble n 1000000 = true:=Nat.ble_eq.mpr (by omega)
 have h3 : (0 : Int)≤(n : Int):=Int.natCast_nonneg n
 simp only [aG,cx,bQ,ho,cg,kJ,hx,hy,ht,hd,fS,h3,decide_true,Int.toNat_natCast,h1,h2,Bool.and_self,cond_true]
end Go.Abs
namespace Go.Abs
open Go
variable {V : Env} {st : St} {o : Oper}
theorem tx{t e : TypeId}{x y : Operand}{k k' b b' : Nat}{ik : IntKind}{h : Int}{xs : List (List D)}{z : List D}(ho : o.op = .slice t x none (some y) none)(ht : aH V.T t = some (e,k',b',z))(hx : ev st x = some (.one (.d (.sl k b xs))))(hy : ev st y = some (.one (.d (.int ik h))))
  (hk : Nat.beq k k' = true) (h0 : 0≤h) (hm : h.toNat≤xs.length) : aG V st o 0 = some ⟨.one (.d (.sl k b (xs.take h.toNat))),[],[]⟩:=by
 have e1 : Nat.ble h.toNat xs.length = true:=Nat.ble_eq.mpr hm
 have e0 : Nat.ble 0 h.toNat = true:=Nat.ble_eq.mpr (Nat.zero_le _)
 simp only [aG,cx,bQ,ho,cg,fB,hx,hy,h0,decide_true,cond_true,fI,ht,hk,e0,e1,Bool.and_self,List.drop_zero]
end Go.Abs
namespace Go.Proofs.YtpejdgkaapnekaaGreat
open Go Go.Abs
attribute [local irreducible] aa OkC ak ar al ax
set_option maxRecDepth 10000
def ao(d : Int) : List D:=[.int .u32 d]
def dP(l : List Int) : D:=.sl 1 4 (l.map ao)
def bd(n : Nat) : D:=dP (dig n)
theorem E6{l : List Int}{p2 : List (List D)}{k j : Nat}(hr : p2 = (l.map ao).take k)(hk : k≤l.length)(hj : j < k) : p2[j]? = some (ao (at_ l j)):=by
 rw [hr,List.getElem?_take_of_lt hj]; exact ji (by omega)
theorem Hz(l : List Int)(h : Dg l) : CallA Tryz.prog 374 [.one (.d (dP l))] [] (.one (.d (bd (ab l).toNat))) []:=by
 refine enter af Tryz.func374 rfl (by decide +kernel) rfl fun hok w0 σ0 φ0 M=>?_
 have h1:=(OkD.sl hok.1).1
 clear hok
 simp only [List.length_map] at h1
 repeat' (first|(refine h1H ?_; (refine Hd ?_; refine s_e aq J J J (tx J J J J J wB wB) ?_))|(refine h1H ?_; (refine E7 ?_; refine s_e aq J J J (eI J J J J J wB (E6 hr hk wB)) ?_))|refine wG ?_|(refine h1H ?_; (refine h4H ?_; refine aC J J J J (fun h=>?_) (fun h=>?_)))|(refine h5H ?_; first|refine ai J (fun h=>?_) (fun h=>?_)|refine aY 1 J [] aS (fun (p : Nat×List (List D))=>[(0,.one (.d (.sl 1 4 p.2)))]) (fun (p : Nat×List (List D))=>p.1≤l.length∧p.2.length = p.1∧p.2 = (l.map ao).take p.1∧ab (l.take p.1) = ab l) (fun (p : Nat×List (List D))=>p.1) (l.length,l.map ao) (q1Q J) ?_ (fun p ⟨hk,hq,hr,hv⟩=>?_))|(show Exists _; refine Exists.intro ((p.1 - 1,p.2.take (Int.toNat ((p.2.length : Int) - 1)))) ⟨?_,?_,wK,(q1Q J),aS⟩))
 ·exact ⟨Nat.le_refl _,by simp,(List.take_of_length_le (by simp)).symm,by simp⟩
 ·have e : ((p.2.length : Int) - 1).toNat = p.1 - 1:=by omega
  have h0 : (0 : Int) < (p.2.length : Int):=of_decide_eq_true ‹decide (_ < _) = true›
  have hz:=uH (l:=l) (k:=p.1 - 1) (by omega) (by rw [← e]; simpa using h)
  rw [show p.1 - 1 + 1 = p.1 by omega] at hz
  refine ⟨by show p.1 - 1≤_; omega,?_,?_,?_⟩
  ·show (p.2.take _).length = p.1 - 1
   rw [e]; simp; omega
  ·show p.2.take _ = (l.map ao).take (p.1 - 1)
   rw [e,hr,List.take_take,Nat.min_eq_left (by omega)]
  ·show ab (l.take (p.1 - 1)) = _
   rw [← hz,hv]
 ·have h0 : (0 : Int) < (p.2.length : Int):=of_decide_eq_true ‹decide (_ < _) = true›
  show p.1 - 1 < p.1
  omega
 ·have e : ((p.2.length : Int) - 1).toNat = p.1 - 1:=by omega
  show AV.one (.d (.sl 1 4 p.2)) = AV.one (.d (.sl 1 4 ((dig (ab l).toNat).map ao)))
  rw [xF ‹Dg l› hk hv (.inr (by rw [← e]; simpa using h)),hr,List.map_take]
 ·have h0 : ¬ (0 : Int) < (p.2.length : Int):=of_decide_eq_false (by simpa using h)
  show AV.one (.d (.sl 1 4 p.2)) = AV.one (.d (.sl 1 4 ((dig (ab l).toNat).map ao)))
  rw [xF ‹Dg l› hk hv (.inl (by omega)),hr,List.map_take]
theorem uh : dig 1 = [1]:=by rw [jT (by omega)]; simp [eR]
theorem NT(n : Nat) : CallA Tryz.prog 379 [.one (.d (bd n))] [] (.one (.d (.bool (n == 1)))) []:=by
 obtain ⟨hD,hv,hl⟩:=b7 n
 refine enter af Tryz.func379 rfl (by decide +kernel) rfl fun hok w0 σ0 φ0 M=>?_
 clear hok
 repeat' (first|refine wG ?_|(refine h1H ?_; (refine h4H ?_; refine aC J J J J (fun h=>?_) (fun h=>?_))))
 ·have hlen : (dig n).length = 1:=by simp at h; omega
  match hd : dig n,hlen with
  | [d],_ =>
    rw [hd] at hv
    simp only [ab] at hv
    show AV.one (.d (.bool (d == 1))) = _
    have e : (d == 1) = (n == 1):=by
     rw [Bool.eq_iff_iff]; simp only [beq_iff_eq]; omega
    rw [e]
 ·have hlen : (dig n).length≠1:=fun e=>by simp [e] at h
  have e : (n == 1) = false:=by
   refine beq_false_of_ne fun hn=>hlen ?_
   rw [hn,uh]; rfl
  rw [e]
theorem mh{m n : Nat}(h : (dig m).length < (dig n).length) : m < n:=by
 obtain ⟨a1,a2,a3⟩:=b7 m
 obtain ⟨b1,b2,b3⟩:=b7 n
 have:=xH a1 b1 b3 h
 omega
theorem Aj{m n : Nat}{k : Nat}(hl : (dig m).length = (dig n).length)(hk : k < (dig m).length)(he : ∀ i,k < i→i < (dig m).length→at_ (dig m) i = at_ (dig n) i)(h : at_ (dig m) k < at_ (dig n) k) : m < n:=by
 obtain ⟨a1,a2,a3⟩:=b7 m
 obtain ⟨b1,b2,b3⟩:=b7 n
 have:=zN a1 b1 hl hk he h
 omega
theorem E8{m n : Nat}(hl : (dig m).length = (dig n).length)(he : ∀ i,i < (dig m).length→at_ (dig m) i = at_ (dig n) i) : m = n:=by
 have e : dig m = dig n:=List.ext_getElem hl fun i h1 h2=>by
  have:=he i h1
  simpa [at_,h1,h2] using this
 have a:=(b7 m).2.1
 have b:=(b7 n).2.1
 rw [e] at a
 omega
def kK(m n : Nat) : Int:=if m < n then -1 else if n < m then 1 else 0
theorem mV{m n : Nat}(h : m < n) : kK m n = -1:=if_pos h
theorem mW{m n : Nat}(h : n < m) : kK m n = 1:=by unfold kK; rw [if_neg (by omega),if_pos h]
theorem pT{m n : Nat}(h : m = n) : kK m n = 0:=by unfold kK; rw [if_neg (by omega),if_neg (by omega)]
theorem yr{a b : List Int}(h : (((a.map ao).length : Int) != ((b.map ao).length : Int)) = false) : a.length = b.length:=by simp at h; omega
theorem Iw{a b : List Int}(h : (((a.map ao).length : Int) != ((b.map ao).length : Int)) = true) : a.length≠b.length:=fun e=>by simp [e] at h
theorem Ix{a b : List Int}(h : decide (((a.map ao).length : Int) < ((b.map ao).length : Int)) = true) : a.length < b.length:=by simpa using h
theorem Iy{a b : List Int}(h : decide (((a.map ao).length : Int) < ((b.map ao).length : Int)) = false) : b.length≤a.length:=by simpa using h
theorem tF(m n : Nat) : CallA Tryz.prog 369 [.one (.d (bd m)),.one (.d (bd n))] [] (.one (.d (.int .i64 (kK m n)))) []:=by
 refine enter af Tryz.func369 rfl (by decide +kernel) rfl fun hok w0 σ0 φ0 M=>?_
 have h1:=(OkD.sl hok.1).1
 clear hok
 simp only [List.length_map] at h1
 repeat' (first|refine wG ?_|(refine h5H ?_; first|refine ai J (fun h=>?_) (fun h=>?_)|refine aY 6 J [(0,_),(1,_)] (q2Q J J) (fun (p : Int)=>[(5,.one (.d (.int .i64 p)))]) (fun (p : Int)=>-1≤p∧p < ((dig m).length : Int)∧(∀ i : Nat,p < (i : Int)→i < (dig m).length→at_ (dig m) i = at_ (dig n) i)) (fun (p : Int)=>(p + 1).toNat) ((((dig m).map ao).length : Int) - 1) (q1Q J) ?_ (fun p ⟨hk,hk2,hs⟩=>?_))|(show Exists _; refine Exists.intro ((p - 1)) ⟨?_,?_,wK,(q1Q J),(q2Q J J)⟩))
 ·rw [mV (mh (Ix h))]
 ·rw [mW (mh (by
   have h2:=Iw ‹_›
   have:=Iy h; omega))]
 ·simp only [List.length_map]; exact ⟨by omega,by omega,fun i h2 h3=>by omega⟩
 ·have hl:=yr ‹_›
  have h0 : 0≤p:=of_decide_eq_true ‹decide (0≤p) = true›
  rw [mV (Aj hl (k:=p.toNat) (by omega) (fun i h2 h3=>hs i (by omega) h3) (of_decide_eq_true h))]
 ·have hl:=yr ‹_›
  have h0 : 0≤p:=of_decide_eq_true ‹decide (0≤p) = true›
  have hne : at_ (dig m) p.toNat≠at_ (dig n) p.toNat:=by simpa using ‹(at_ (dig m) p.toNat != at_ (dig n) p.toNat) = true›
  have hle:=of_decide_eq_false h
  rw [mW (Aj hl.symm (k:=p.toNat) (by omega) (fun i h2 h3=>(hs i (by omega) (by omega)).symm) (by omega))]
 ·have h0 : 0≤p:=of_decide_eq_true ‹decide (0≤p) = true›
  have he : at_ (dig m) p.toNat = at_ (dig n) p.toNat:=by simpa using h
  refine ⟨by omega,by omega,fun i h2 h3=>?_⟩
  rcases Int.lt_or_le p (i : Int) with h4 | h4
  ·exact hs i h4 h3
  ·have : i = p.toNat:=by omega
   rw [this,he]
 ·have h0 : 0≤p:=of_decide_eq_true ‹decide (0≤p) = true›
  omega
 ·have hl:=yr ‹_›
  have h0 : ¬ 0≤p:=of_decide_eq_false h
  rw [pT (E8 hl fun i h3=>hs i (by omega) h3)]
def Fz(a b : Int) : AV:=.tup [(false,[.d (.int .u32 a)]),(false,[.d (.int .u32 b)])]
theorem gX(v : Int) : IntKind.u32.wrap v = v % 4294967296:=rfl
theorem w8(v : Int) : v.fdiv (2 ^ min (Int.toNat 32) IntKind.u64.bits) = v / 4294967296:=Int.fdiv_eq_ediv_of_nonneg v (by decide)
theorem KJ(v : Int) : v.fdiv (2 ^ min (Int.toNat 31) IntKind.u32.bits) = v / 2147483648:=Int.fdiv_eq_ediv_of_nonneg v (by decide)
theorem bkm(v : BitVec IntKind.u32.bits) : BitVec.ofInt IntKind.u32.bits ((v.toNat : Int) % 4294967296) = v:=by
 have h : v.toNat < 4294967296:=v.isLt
 rw [show ((v.toNat : Int) % 4294967296) = (v.toNat : Int) by omega,BitVec.ofInt_natCast,BitVec.ofNat_toNat,BitVec.setWidth_eq]
theorem KL(v : BitVec 32) : (v.toNat : Int) % 4294967296 / 2147483648 = if v.msb = true then 1 else 0:=by
 have h : v.toNat < 4294967296:=v.isLt
 rw [BitVec.msb_eq_decide]
 split
 ·rename_i h2
  have:=of_decide_eq_true h2
  simp at this; omega
 ·rename_i h2
  have : ¬ _:=fun hh=>h2 (decide_eq_true hh)
  simp at this; omega
theorem CG{x : Int}(hx : 0≤x∧x < 4294967296) : ((BitVec.ofInt 32 x).toNat : Int) = x:=by
 rw [BitVec.toNat_ofInt]; simp; omega
theorem tI{x : Int}(hx : 0≤x∧x < 4294967296) : (BitVec.ofInt 32 x).msb = decide (2147483648≤x):=by
 have h:=CG hx
 rw [BitVec.msb_eq_decide,Bool.eq_iff_iff]
 simp only [decide_eq_true_eq]
 simp
 omega
theorem y9(X Y E : BitVec 32) : (((((BitVec.ofInt 32 4294967295 ^^^ X) &&& Y) ||| ((BitVec.ofInt 32 4294967295 ^^^ (X ^^^ Y)) &&& E)).toNat : Int)) % 4294967296 / 2147483648 = if ((!X.msb && Y.msb) || (!(X.msb ^^ Y.msb) && E.msb)) = true then 1 else 0:=by
 rw [KL]
 have h : (BitVec.ofInt 32 4294967295).msb = true:=by decide
 simp only [BitVec.msb_or,BitVec.msb_and,BitVec.msb_xor,h,Bool.true_xor]
theorem xi(x y c : Int)(hx : 0≤x∧x < 4294967296)(hy : 0≤y∧y < 4294967296)(hc : 0≤c∧c≤1) : CallA Tryz.prog 376 [.one (.d (.int .u32 x)),.one (.d (.int .u32 y)),.one (.d (.int .u32 c))] [] (Fz ((x + y + c) % 4294967296) ((x + y + c) / 4294967296)) []:=by
 refine enter af Tryz.func376 rfl (by decide +kernel) rfl fun hok w0 σ0 φ0 M=>?_
 clear hok
 repeat' (first|refine wG ?_)
 rw [gX,gX,w8,show (x + y + c) / 4294967296 % 4294967296 = (x + y + c) / 4294967296 by omega]
 rfl
theorem AY(x y c : Int)(hx : 0≤x∧x < 4294967296)(hy : 0≤y∧y < 4294967296)(hc : 0≤c∧c≤1) : CallA Tryz.prog 384 [.one (.d (.int .u32 x)),.one (.d (.int .u32 y)),.one (.d (.int .u32 c))] [] (Fz ((x - y - c) % 4294967296) (if x < y + c then 1 else 0)) []:=by
 refine enter af Tryz.func384 rfl (by decide +kernel) rfl fun hok w0 σ0 φ0 M=>?_
 clear hok
 repeat' (first|refine wG ?_)
 simp only [gX,KJ,bkm]
 have hd : (((x - y) % 4294967296 - c) % 4294967296) = (x - y - c) % 4294967296:=by omega
 rw [hd]
 have hb:=y9 (BitVec.ofInt 32 x) (BitVec.ofInt 32 y) (BitVec.ofInt 32 ((x - y - c) % 4294967296))
 rw [tI hx,tI hy,tI (by omega)] at hb
 refine congrArg (fun b=>AV.tup [(false,[.d (.int .u32 ((x - y - c) % 4294967296))]),(false,[.d (.int .u32 b)])]) (hb.trans ?_)
 by_cases h1 : 2147483648≤x <;> by_cases h2 : 2147483648≤y <;> by_cases h3 : 2147483648≤(x - y - c) % 4294967296 <;> by_cases h4 : x < y + c <;> simp [h1,h2,h3,h4] <;> omega
theorem lZ(ys : List (List D))(l : List Int)(m : Nat)(hy : ys = l.map ao)(h : Dg l)(hm : (ab l).toNat = m) : CallA Tryz.prog 374 [.one (.d (.sl 1 4 ys))] [] (.one (.d (bd m))) []:=by
 subst hy; subst hm; exact Hz l h
theorem HD{a b : Int}(ha : 0≤a∧a < 4294967296)(hb : 0≤b∧b < 4294967296) : Dg [a,b]:=fun d hd=>by
 rcases List.mem_cons.1 hd with rfl | hd
 ·exact ha
 ·rw [List.mem_singleton.1 hd]; exact hb
theorem Hx(n : Nat)(hn : n < 18446744073709551616) : CallA Tryz.prog 370 [.one (.d (.int .u64 n))] [] (.one (.d (bd n))) []:=by
 have hD : Dg [IntKind.u32.wrap (n : Int),IntKind.u32.wrap ((n : Int).fdiv (2 ^ min (Int.toNat 32) IntKind.u64.bits))]:=HD (by rw [gX]; omega) (by rw [gX]; omega)
 have hN : (ab [IntKind.u32.wrap (n : Int),IntKind.u32.wrap ((n : Int).fdiv (2 ^ min (Int.toNat 32) IntKind.u64.bits))]).toNat = n:=by
  simp only [ab,gX,w8]; omega
 refine enter af Tryz.func370 rfl (by decide +kernel) rfl fun hok w0 σ0 φ0 M=>?_
 clear hok
 repeat' (first|(refine h1H ?_; (refine h0H ?_; refine dW 16 [0] J J J J J J J J J (lZ _ [IntKind.u32.wrap (n : Int),IntKind.u32.wrap ((n : Int).fdiv (2 ^ min (Int.toNat 32) IntKind.u64.bits))] n J hD hN) J J J ?_))|refine wG ?_)
 all_goals rfl
theorem CH{X Y L : List Int}{k : Nat}{c : Int}(hX : k < X.length)(hL : k < L.length)(h : ab (L.take k) + pw k * c = ab (X.take k) + ab (Y.take k)) :
  ab ((L.set k ((at_ X k + at_ Y k + c) % 4294967296)).take (k + 1)) + pw (k + 1) * ((at_ X k + at_ Y k + c) / 4294967296) = ab (X.take (k + 1)) + ab (Y.take (k + 1)):=by
 have hs : k < (L.set k ((at_ X k + at_ Y k + c) % 4294967296)).length:=by simpa using hL
 rw [bf hs,bf hX,List.take_set_of_le (Nat.le_refl _),cM]
 have e1 : at_ (L.set k ((at_ X k + at_ Y k + c) % 4294967296)) k = (at_ X k + at_ Y k + c) % 4294967296:=by simp [at_,hL]
 have e2 : ab (Y.take (k + 1)) = ab (Y.take k) + pw k * at_ Y k:=by
  by_cases hY : k < Y.length
  ·exact bf hY
  ·have : at_ Y k = 0:=by simp [at_,List.getD_eq_getElem?_getD,List.getElem?_eq_none (Nat.le_of_not_lt hY)]
   rw [this,List.take_of_length_le (by omega),List.take_of_length_le (by omega)]; simp
 rw [e1,e2]
 have e3 : (at_ X k + at_ Y k + c) % 4294967296 + 4294967296 * ((at_ X k + at_ Y k + c) / 4294967296) = at_ X k + at_ Y k + c:=by omega
 generalize (at_ X k + at_ Y k + c) % 4294967296 = r at e3 ⊢
 generalize (at_ X k + at_ Y k + c) / 4294967296 = q at e3 ⊢
 have e4 : pw k * r + 4294967296 * pw k * q = pw k * (at_ X k + at_ Y k + c):=by
  rw [← e3,Int.mul_add,Int.mul_comm 4294967296 (pw k),Int.mul_assoc]
 simp only [Int.mul_add] at e4 h ⊢
 omega
theorem mZ{l : List Int}{k : Nat}(h : l.length≤k) : at_ l k = 0:=by simp [at_,List.getD_eq_getElem?_getD,List.getElem?_eq_none h]
theorem nU{X Y L : List Int}{k : Nat}{c b : Int}{R : List (List D)}(hX : Dg X)(hlt : k < X.length)(hb : at_ Y k = b)(hb2 : 0≤b∧b < 4294967296)(hr : R = L.map ao)(hl2 : R.length = X.length + 1)(hL : Dg L)(hc : 0≤c∧c≤1)
  (hv : ab (L.take k) + pw k * c = ab (X.take k) + ab (Y.take k)) :
  k + 1≤X.length∧R.set k [.int .u32 ((at_ X k + b + c) % 4294967296)] = (L.set k ((at_ X k + b + c) % 4294967296)).map ao∧(R.set k [.int .u32 ((at_ X k + b + c) % 4294967296)]).length = X.length + 1∧Dg (L.set k ((at_ X k + b + c) % 4294967296)) ∧
  (0≤(at_ X k + b + c) / 4294967296∧(at_ X k + b + c) / 4294967296≤1)∧ab ((L.set k ((at_ X k + b + c) % 4294967296)).take (k + 1)) + pw (k + 1) * ((at_ X k + b + c) / 4294967296) = ab (X.take (k + 1)) + ab (Y.take (k + 1)):=by
 have hLl : L.length = X.length + 1:=by rw [hr] at hl2; simpa using hl2
 have h1:=hX.at hlt
 subst hb
 refine ⟨hlt,?_,by simpa using hl2,hL.set (by omega),by omega,CH hlt (by omega) hv⟩
 rw [hr,List.map_set]; rfl
theorem zB{X L : List Int}{c : Int}{R : List (List D)}(hr : R = L.map ao)(hl2 : R.length = X.length + 1) : (R.set (((X.map ao).length : Int).toNat) [.int .u32 c]).take (X.length + 1) = (L.set X.length c).map ao:=by
 rw [List.take_of_length_le (by simp; omega),List.length_map,Int.toNat_natCast,hr,List.map_set]; rfl
theorem pU{X Y L : List Int}{k : Nat}{c : Int}(hk : X.length≤k)(hk2 : k≤X.length)(hxy : Y.length≤X.length)(hLl : L.length = X.length + 1)(hL : Dg L)(hc : 0≤c∧c≤1)(hv : ab (L.take k) + pw k * c = ab (X.take k) + ab (Y.take k)) :
  Dg (L.set X.length c)∧(ab (L.set X.length c)).toNat = (ab X + ab Y).toNat:=by
 have e : k = X.length:=by omega
 subst e
 refine ⟨hL.set (by omega),?_⟩
 have hs : X.length < (L.set X.length c).length:=by simp; omega
 have h1:=bf hs
 rw [List.take_of_length_le (by simp; omega),List.take_set_of_le (Nat.le_refl _)] at h1
 have e1 : at_ (L.set X.length c) X.length = c:=by simp [at_,hLl]
 rw [e1,hv,List.take_of_length_le (Nat.le_refl _),List.take_of_length_le hxy] at h1
 rw [h1]
theorem I8(X Y : List Int)(hX : Dg X)(hY : Dg Y)(hn : X.length≤400)(hxy : Y.length≤X.length) : CallA Tryz.prog 356 [.one (.d (dP X)),.one (.d (dP Y))] [] (.one (.d (bd (ab X + ab Y).toNat))) []:=by
 have zr : (0 : Int)≤0∧(0 : Int) < 4294967296:=⟨by omega,by omega⟩
 have hsw : decide (((X.map ao).length : Int) < ((Y.map ao).length : Int)) = false:=by simpa using hxy
 refine enter af Tryz.func356 rfl (by decide +kernel) rfl fun hok w0 σ0 φ0 M=>?_
 clear hok
 repeat' (first|(refine h1H ?_; (refine h8H ?_; refine fY aq 10 J J J (cK (n:=X.length + 1) J J J J J (by simp) (by simp) (by omega) (Nat.le_of_ble_eq_true J)) J J ?_))|(refine h1H ?_; (refine h0H ?_; first|refine dW 40 [10] J J J J J J J J J (lZ _ (p.2.2.1.set X.length p.2.1) _ (zB hr hl2) (pU (by simpa using h) hk hxy (by rw [hr] at hl2; simpa using hl2) hL hc hv).1 (pU (by simpa using h) hk hxy (by rw [hr] at hl2; simpa using hl2) hL hc hv).2) J J J ?_|refine ae J J J J J J J J (xi _ _ _ (hX.at wB) (hY.at wB) hc) J ?_|refine ae J J J J J J J J (xi _ _ _ (hX.at wB) zr hc) J ?_))|refine wG ?_|(refine h5H ?_; first|refine ai J (fun h=>?_) (fun h=>?_)|refine cE 6 J [(0,_),(1,_),(5,_),(21,_)] (q4Q J J J J) (fun (p : Nat×Int×List Int×List (List D))=>[(22,.one (.d (.int .i64 (p.1 : Int)))),(6,.one (.d (.int .u32 p.2.1)))]) (fun (p : Nat×Int×List Int×List (List D))=>[(10,.row 1 4 p.2.2.2)]) (fun (p : Nat×Int×List Int×List (List D))=>p.1≤X.length∧p.2.2.2 = p.2.2.1.map ao∧p.2.2.2.length = X.length + 1∧Dg p.2.2.1∧(0≤p.2.1∧p.2.1≤1)∧ab (p.2.2.1.take p.1) + pw p.1 * p.2.1 = ab (X.take p.1) + ab (Y.take p.1)) (fun (p : Nat×Int×List Int×List (List D))=>X.length - p.1) (0,0,List.replicate (X.length + 1) 0,List.replicate (X.length + 1) [.int .u32 0]) (q2Q J J) wK ?_ (fun p ⟨hk,hr,hl2,hL,hc,hv⟩=>?_))|(show Exists _; first|refine Exists.intro ((p.1 + 1,(at_ X p.1 + at_ Y p.1 + p.2.1) / 4294967296,p.2.2.1.set p.1 ((at_ X p.1 + at_ Y p.1 + p.2.1) % 4294967296),p.2.2.2.set p.1 [.int .u32 ((at_ X p.1 + at_ Y p.1 + p.2.1) % 4294967296)])) ⟨?_,?_,wK,(q2Q J J),(q4Q J J J J)⟩|refine Exists.intro ((p.1 + 1,(at_ X p.1 + 0 + p.2.1) / 4294967296,p.2.2.1.set p.1 ((at_ X p.1 + 0 + p.2.1) % 4294967296),p.2.2.2.set p.1 [.int .u32 ((at_ X p.1 + 0 + p.2.1) % 4294967296)])) ⟨?_,?_,wK,(q2Q J J),(q4Q J J J J)⟩))
 ·exact ⟨Nat.zero_le _,by simp [ao],by simp,Dg.zeros _,⟨Int.le_refl _,Int.zero_le_ofNat 1⟩,by simp [ab]⟩
 ·exact nU hX (by simpa using ‹decide ((p.1 : Int) < ((X.map ao).length : Int)) = true›) rfl (hY.at (by simpa using h)) hr hl2 hL hc hv
 ·have hlt : p.1 < X.length:=by simpa using ‹decide ((p.1 : Int) < ((X.map ao).length : Int)) = true›
  show X.length - (p.1 + 1) < X.length - p.1
  omega
 ·exact nU hX (by simpa using ‹decide ((p.1 : Int) < ((X.map ao).length : Int)) = true›) (mZ (by simpa using h)) zr hr hl2 hL hc hv
 ·have hlt : p.1 < X.length:=by simpa using ‹decide ((p.1 : Int) < ((X.map ao).length : Int)) = true›
  show X.length - (p.1 + 1) < X.length - p.1
  omega
 ·rfl
theorem I9(X Y : List Int)(hY : Dg Y)(hX : Dg X)(hn : Y.length≤400)(hlt0 : X.length < Y.length) : CallA Tryz.prog 356 [.one (.d (dP X)),.one (.d (dP Y))] [] (.one (.d (bd (ab Y + ab X).toNat))) []:=by
 have zr : (0 : Int)≤0∧(0 : Int) < 4294967296:=⟨by omega,by omega⟩
 have hxy : X.length≤Y.length:=by omega
 have hsw : decide (((X.map ao).length : Int) < ((Y.map ao).length : Int)) = true:=by simpa using hlt0
 refine enter af Tryz.func356 rfl (by decide +kernel) rfl fun hok w0 σ0 φ0 M=>?_
 clear hok
 repeat' (first|(refine h1H ?_; (refine h8H ?_; refine fY aq 10 J J J (cK (n:=Y.length + 1) J J J J J (by simp) (by simp) (by omega) (Nat.le_of_ble_eq_true J)) J J ?_))|(refine h1H ?_; (refine h0H ?_; first|refine dW 40 [10] J J J J J J J J J (lZ _ (p.2.2.1.set Y.length p.2.1) _ (zB hr hl2) (pU (by simpa using h) hk hxy (by rw [hr] at hl2; simpa using hl2) hL hc hv).1 (pU (by simpa using h) hk hxy (by rw [hr] at hl2; simpa using hl2) hL hc hv).2) J J J ?_|refine ae J J J J J J J J (xi _ _ _ (hY.at wB) (hX.at wB) hc) J ?_|refine ae J J J J J J J J (xi _ _ _ (hY.at wB) zr hc) J ?_))|refine wG ?_|(refine h5H ?_; first|refine ai J (fun h=>?_) (fun h=>?_)|refine cE 6 J [(0,_),(1,_),(5,_),(21,_)] (q4Q J J J J) (fun (p : Nat×Int×List Int×List (List D))=>[(22,.one (.d (.int .i64 (p.1 : Int)))),(6,.one (.d (.int .u32 p.2.1)))]) (fun (p : Nat×Int×List Int×List (List D))=>[(10,.row 1 4 p.2.2.2)]) (fun (p : Nat×Int×List Int×List (List D))=>p.1≤Y.length∧p.2.2.2 = p.2.2.1.map ao∧p.2.2.2.length = Y.length + 1∧Dg p.2.2.1∧(0≤p.2.1∧p.2.1≤1)∧ab (p.2.2.1.take p.1) + pw p.1 * p.2.1 = ab (Y.take p.1) + ab (X.take p.1)) (fun (p : Nat×Int×List Int×List (List D))=>Y.length - p.1) (0,0,List.replicate (Y.length + 1) 0,List.replicate (Y.length + 1) [.int .u32 0]) (q2Q J J) wK ?_ (fun p ⟨hk,hr,hl2,hL,hc,hv⟩=>?_))|(show Exists _; first|refine Exists.intro ((p.1 + 1,(at_ Y p.1 + at_ X p.1 + p.2.1) / 4294967296,p.2.2.1.set p.1 ((at_ Y p.1 + at_ X p.1 + p.2.1) % 4294967296),p.2.2.2.set p.1 [.int .u32 ((at_ Y p.1 + at_ X p.1 + p.2.1) % 4294967296)])) ⟨?_,?_,wK,(q2Q J J),(q4Q J J J J)⟩|refine Exists.intro ((p.1 + 1,(at_ Y p.1 + 0 + p.2.1) / 4294967296,p.2.2.1.set p.1 ((at_ Y p.1 + 0 + p.2.1) % 4294967296),p.2.2.2.set p.1 [.int .u32 ((at_ Y p.1 + 0 + p.2.1) % 4294967296)])) ⟨?_,?_,wK,(q2Q J J),(q4Q J J J J)⟩))
 ·exact ⟨Nat.zero_le _,by simp [ao],by simp,Dg.zeros _,⟨Int.le_refl _,Int.zero_le_ofNat 1⟩,by simp [ab]⟩
 ·exact nU hY (by simpa using ‹decide ((p.1 : Int) < ((Y.map ao).length : Int)) = true›) rfl (hX.at (by simpa using h)) hr hl2 hL hc hv
 ·have hlt : p.1 < Y.length:=by simpa using ‹decide ((p.1 : Int) < ((Y.map ao).length : Int)) = true›
  show Y.length - (p.1 + 1) < Y.length - p.1
  omega
 ·exact nU hY (by simpa using ‹decide ((p.1 : Int) < ((Y.map ao).length : Int)) = true›) (mZ (by simpa using h)) zr hr hl2 hL hc hv
 ·have hlt : p.1 < Y.length:=by simpa using ‹decide ((p.1 : Int) < ((Y.map ao).length : Int)) = true›
  show Y.length - (p.1 + 1) < Y.length - p.1
  omega
 ·rfl
theorem HE(m n : Nat)(hm : (dig m).length≤400)(hn : (dig n).length≤400) : CallA Tryz.prog 356 [.one (.d (bd m)),.one (.d (bd n))] [] (.one (.d (bd (m + n)))) []:=by
 obtain ⟨a1,a2,a3⟩:=b7 m
 obtain ⟨b1,b2,b3⟩:=b7 n
 rcases Nat.lt_or_ge (dig m).length (dig n).length with h | h
 ·have:=I9 (dig m) (dig n) b1 a1 hn h
  rwa [a2,b2,show ((n : Int) + (m : Int)).toNat = m + n by omega] at this
 ·have:=I8 (dig m) (dig n) a1 b1 hm h
  rwa [a2,b2,show ((m : Int) + (n : Int)).toNat = m + n by omega] at this
theorem yU{X Y L : List Int}{k : Nat}{c b : Int}{R : List (List D)}(hX : Dg X)(hlt : k < X.length)(hb : at_ Y k = b)(hb2 : 0≤b∧b < 4294967296)(hr : R = L.map ao)(hl2 : R.length = X.length)(hL : Dg L)(hc : 0≤c∧c≤1)
  (hv : ab (L.take k) = ab (X.take k) - ab (Y.take k) + pw k * c) :
  k + 1≤X.length∧R.set k [.int .u32 ((at_ X k - b - c) % 4294967296)] = (L.set k ((at_ X k - b - c) % 4294967296)).map ao∧(R.set k [.int .u32 ((at_ X k - b - c) % 4294967296)]).length = X.length∧Dg (L.set k ((at_ X k - b - c) % 4294967296)) ∧
  (0≤(if at_ X k < b + c then (1 : Int) else 0)∧(if at_ X k < b + c then (1 : Int) else 0)≤1)∧ab ((L.set k ((at_ X k - b - c) % 4294967296)).take (k + 1)) = ab (X.take (k + 1)) - ab (Y.take (k + 1)) + pw (k + 1) * (if at_ X k < b + c then (1 : Int) else 0):=by
 have hLl : L.length = X.length:=by rw [hr] at hl2; simpa using hl2
 have h1:=hX.at hlt
 subst hb
 refine ⟨hlt,?_,by simpa using hl2,hL.set (by omega),by split <;> omega,?_⟩
 ·rw [hr,List.map_set]; rfl
 have hs : k < (L.set k ((at_ X k - at_ Y k - c) % 4294967296)).length:=by simp; omega
 have hLk : k < L.length:=by omega
 rw [bf hs,bf hlt,List.take_set_of_le (Nat.le_refl _),cM]
 have e1 : at_ (L.set k ((at_ X k - at_ Y k - c) % 4294967296)) k = (at_ X k - at_ Y k - c) % 4294967296:=by simp [at_,hLk]
 have e2 : ab (Y.take (k + 1)) = ab (Y.take k) + pw k * at_ Y k:=by
  by_cases hY : k < Y.length
  ·exact bf hY
  ·rw [mZ (Nat.le_of_not_lt hY),List.take_of_length_le (by omega),List.take_of_length_le (by omega)]; simp
 rw [e1,e2,hv]
 have e3 : (at_ X k - at_ Y k - c) % 4294967296 = at_ X k - at_ Y k - c + 4294967296 * (if at_ X k < at_ Y k + c then (1 : Int) else 0):=by split <;> omega
 rw [e3]
 generalize (if at_ X k < at_ Y k + c then (1 : Int) else 0) = q
 have e4 : pw k * (at_ X k - at_ Y k - c + 4294967296 * q) = pw k * at_ X k - pw k * at_ Y k - pw k * c + 4294967296 * pw k * q:=by
  simp only [Int.mul_add,Int.mul_sub]
  rw [← Int.mul_assoc,Int.mul_comm (pw k) 4294967296]
 rw [e4]
 omega
theorem G3{X Y L : List Int}{k : Nat}{c : Int}(hk : X.length≤k)(hk2 : k≤X.length)(hxy : Y.length≤X.length)(hle : ab Y≤ab X)(hLl : L.length = X.length)(hX : Dg X)(hL : Dg L)(hc : 0≤c∧c≤1)(hv : ab (L.take k) = ab (X.take k) - ab (Y.take k) + pw k * c) : (ab L).toNat = (ab X - ab Y).toNat:=by
 have e : k = X.length:=by omega
 subst e
 rw [List.take_of_length_le (by omega),List.take_of_length_le (Nat.le_refl _),List.take_of_length_le hxy] at hv
 have h1:=cX hL
 rw [hLl] at h1
 have hc' : c = 0∨c = 1:=by omega
 rcases hc' with rfl | rfl
 ·rw [hv]; simp
 ·exfalso; rw [Int.mul_one] at hv; omega
theorem G4{X L : List Int}{R : List (List D)}(hr : R = L.map ao)(hl2 : R.length = X.length) : R.take X.length = L.map ao:=by
 rw [List.take_of_length_le (by omega),hr]
theorem Jy(X Y : List Int)(hX : Dg X)(hY : Dg Y)(hn : X.length≤400)(hxy : Y.length≤X.length)(hle : ab Y≤ab X) : CallA Tryz.prog 377 [.one (.d (dP X)),.one (.d (dP Y))] [] (.one (.d (bd (ab X - ab Y).toNat))) []:=by
 have zr : (0 : Int)≤0∧(0 : Int) < 4294967296:=⟨by omega,by omega⟩
 refine enter af Tryz.func377 rfl (by decide +kernel) rfl fun hok w0 σ0 φ0 M=>?_
 clear hok
 repeat' (first|(refine h1H ?_; (refine h8H ?_; refine fY aq 10 J J J (cK (n:=X.length) J J J J J (by simp) (by simp) (by omega) (Nat.le_of_ble_eq_true J)) J J ?_))|(refine h1H ?_; (refine h0H ?_; first|refine dW 40 [10] J J J J J J J J J (lZ _ p.2.2.1 _ (G4 hr hl2) hL (G3 (by simpa using h) hk hxy hle (by rw [hr] at hl2; simpa using hl2) hX hL hc hv)) J J J ?_|refine ae J J J J J J J J (AY _ _ _ (hX.at wB) (hY.at wB) hc) J ?_|refine ae J J J J J J J J (AY _ _ _ (hX.at wB) zr hc) J ?_))|refine wG ?_|(refine h5H ?_; first|refine ai J (fun h=>?_) (fun h=>?_)|refine cE 4 J [(0,_),(1,_),(5,_),(13,_)] (q4Q J J J J) (fun (p : Nat×Int×List Int×List (List D))=>[(14,.one (.d (.int .i64 (p.1 : Int)))),(6,.one (.d (.int .u32 p.2.1)))]) (fun (p : Nat×Int×List Int×List (List D))=>[(10,.row 1 4 p.2.2.2)]) (fun (p : Nat×Int×List Int×List (List D))=>p.1≤X.length∧p.2.2.2 = p.2.2.1.map ao∧p.2.2.2.length = X.length∧Dg p.2.2.1∧(0≤p.2.1∧p.2.1≤1)∧ab (p.2.2.1.take p.1) = ab (X.take p.1) - ab (Y.take p.1) + pw p.1 * p.2.1) (fun (p : Nat×Int×List Int×List (List D))=>X.length - p.1) (0,0,List.replicate X.length 0,List.replicate X.length [.int .u32 0]) (q2Q J J) wK ?_ (fun p ⟨hk,hr,hl2,hL,hc,hv⟩=>?_))|(show Exists _; first|refine Exists.intro ((p.1 + 1,(if at_ X p.1 < at_ Y p.1 + p.2.1 then 1 else 0),p.2.2.1.set p.1 ((at_ X p.1 - at_ Y p.1 - p.2.1) % 4294967296),p.2.2.2.set p.1 [.int .u32 ((at_ X p.1 - at_ Y p.1 - p.2.1) % 4294967296)])) ⟨?_,?_,wK,(q2Q J J),(q4Q J J J J)⟩|refine Exists.intro ((p.1 + 1,(if at_ X p.1 < 0 + p.2.1 then 1 else 0),p.2.2.1.set p.1 ((at_ X p.1 - 0 - p.2.1) % 4294967296),p.2.2.2.set p.1 [.int .u32 ((at_ X p.1 - 0 - p.2.1) % 4294967296)])) ⟨?_,?_,wK,(q2Q J J),(q4Q J J J J)⟩))
 ·exact ⟨Nat.zero_le _,by simp [ao],by simp,Dg.zeros _,⟨Int.le_refl _,Int.zero_le_ofNat 1⟩,by simp [ab]⟩
 ·exact yU hX (by simpa using ‹decide ((p.1 : Int) < ((X.map ao).length : Int)) = true›) rfl (hY.at (by simpa using h)) hr hl2 hL hc hv
 ·have hlt : p.1 < X.length:=by simpa using ‹decide ((p.1 : Int) < ((X.map ao).length : Int)) = true›
  show X.length - (p.1 + 1) < X.length - p.1
  omega
 ·exact yU hX (by simpa using ‹decide ((p.1 : Int) < ((X.map ao).length : Int)) = true›) (mZ (by simpa using h)) zr hr hl2 hL hc hv
 ·have hlt : p.1 < X.length:=by simpa using ‹decide ((p.1 : Int) < ((X.map ao).length : Int)) = true›
  show X.length - (p.1 + 1) < X.length - p.1
  omega
 ·rfl
theorem IC(m n : Nat)(hm : (dig m).length≤400)(h : n≤m) : CallA Tryz.prog 377 [.one (.d (bd m)),.one (.d (bd n))] [] (.one (.d (bd (m - n)))) []:=by
 obtain ⟨a1,a2,a3⟩:=b7 m
 obtain ⟨b1,b2,b3⟩:=b7 n
 have hl : (dig n).length≤(dig m).length:=by
  refine Nat.le_of_not_lt fun hc=>?_
  have:=mh hc; omega
 have:=Jy (dig m) (dig n) a1 b1 hm hl (by omega)
 rwa [a2,b2,show ((m : Int) - (n : Int)).toNat = m - n by omega] at this
def ug(c x y o : Int) : Int:=IntKind.u64.wrap (c + IntKind.u64.wrap (IntKind.u64.wrap (IntKind.u64.wrap x * IntKind.u64.wrap y) + IntKind.u64.wrap o))
theorem xU{x y : Int}(hx : 0≤x∧x < 4294967296)(hy : 0≤y∧y < 4294967296) : 0≤x * y∧x * y≤18446744065119617025:=by
 have h1 : x≤4294967295:=by omega
 have h2 : y≤4294967295:=by omega
 exact ⟨Int.mul_nonneg hx.1 hy.1,Int.le_trans (Int.mul_le_mul h1 h2 hy.1 (by omega)) (by decide)⟩
theorem cU{v : Int}(h0 : 0≤v)(h1 : v≤18446744073709551615) : IntKind.u64.wrap v = v:=by
 show v % 18446744073709551616 = v
 omega
theorem GJ{c x y o : Int}(hc : 0≤c∧c < 4294967296)(hx : 0≤x∧x < 4294967296)(hy : 0≤y∧y < 4294967296)(ho : 0≤o∧o < 4294967296) : ug c x y o = c + x * y + o∧0≤c + x * y + o∧c + x * y + o≤18446744073709551615:=by
 have h:=xU hx hy
 unfold ug
 rw [cU hx.1 (by omega),cU hy.1 (by omega),cU ho.1 (by omega),cU h.1 (by omega),cU (v:=x * y + o) (by omega) (by omega),cU (by omega) (by omega)]
 omega
theorem dU{l : List Int}{k t : Nat}{x : Int}(h : t≠k) : at_ (l.set k x) t = at_ l t:=by
 simp [at_,List.getD_eq_getElem?_getD,List.getElem?_set,Ne.symm h]
theorem E5{X Y L : List Int}{R : List (List D)}{i j : Nat}{c V T : Int}(hT : T = ug c (at_ X i) (at_ Y j) (at_ L (i + j)))(hX : Dg X)(hY : Dg Y)(hi : i < X.length)(hj : j < Y.length)(hr : R = L.map ao)(hl : R.length = X.length + Y.length)(hL : Dg L)(hc : 0≤c∧c < 4294967296)
  (hz : ∀ t,i + Y.length≤t→at_ L t = 0) (hv : ab L + pw (i + j) * c = V + pw i * (at_ X i * ab (Y.take j))) :
  j + 1≤Y.length∧R.set (i + j) [.int .u32 (IntKind.u32.wrap T)] = (L.set (i + j) (IntKind.u32.wrap T)).map ao∧(R.set (i + j) [.int .u32 (IntKind.u32.wrap T)]).length = X.length + Y.length∧Dg (L.set (i + j) (IntKind.u32.wrap T)) ∧
  (0≤T.fdiv (2 ^ min (Int.toNat 32) IntKind.u64.bits)∧T.fdiv (2 ^ min (Int.toNat 32) IntKind.u64.bits) < 4294967296)∧(∀ t,i + Y.length≤t→at_ (L.set (i + j) (IntKind.u32.wrap T)) t = 0) ∧
  ab (L.set (i + j) (IntKind.u32.wrap T)) + pw (i + (j + 1)) * T.fdiv (2 ^ min (Int.toNat 32) IntKind.u64.bits) = V + pw i * (at_ X i * ab (Y.take (j + 1))):=by
 have hLl : L.length = X.length + Y.length:=by rw [hr] at hl; simpa using hl
 have hk : i + j < L.length:=by omega
 obtain ⟨e,h0,h1⟩:=GJ hc (hX.at hi) (hY.at hj) (hL.at hk)
 rw [← hT] at e
 rw [gX,w8]
 refine ⟨hj,by rw [hr,List.map_set]; rfl,by simpa using hl,hL.set (by omega),by omega,fun t ht=>by rw [dU (by omega)]; exact hz t ht,?_⟩
 rw [jU hk,bf hj,show i + (j + 1) = (i + j) + 1 by omega,cM]
 have e3 : T % 4294967296 + 4294967296 * (T / 4294967296) = T:=by omega
 generalize T % 4294967296 = r at e3 ⊢
 generalize T / 4294967296 = q at e3 ⊢
 have e4 : pw (i + j) * r + 4294967296 * pw (i + j) * q = pw (i + j) * c + pw (i + j) * (at_ X i * at_ Y j) + pw (i + j) * at_ L (i + j):=by
  rw [← Int.mul_add,← Int.mul_add,← e,← e3,Int.mul_add,Int.mul_comm 4294967296 (pw (i + j)),Int.mul_assoc]
 have e5 : pw i * (at_ X i * (ab (Y.take j) + pw j * at_ Y j)) = pw i * (at_ X i * ab (Y.take j)) + pw (i + j) * (at_ X i * at_ Y j):=by
  rw [Int.mul_add,Int.mul_add,gd,Int.mul_assoc (pw i) (pw j),Int.mul_left_comm (at_ X i) (pw j)]
 rw [e5,Int.mul_sub]
 omega
theorem GK{X Y L : List Int}{R : List (List D)}{i j : Nat}{c V : Int}(hX : Dg X)(hY : Dg Y)(hi : i < X.length)(hj : j≤Y.length)(hj2 : Y.length≤j)(hr : R = L.map ao)(hl : R.length = X.length + Y.length)(hL : Dg L)(hc : 0≤c∧c < 4294967296)
  (hz : ∀ t,i + Y.length≤t→at_ L t = 0) (hV : V = ab (X.take i) * ab Y) (hv : ab L + pw (i + j) * c = V + pw i * (at_ X i * ab (Y.take j))) :
  i + 1≤X.length∧R.set (i + (Y.map ao).length) [.int .u32 c] = (L.set (i + Y.length) c).map ao∧(R.set (i + (Y.map ao).length) [.int .u32 c]).length = X.length + Y.length∧Dg (L.set (i + Y.length) c) ∧
  (∀ t,i + 1 + Y.length≤t→at_ (L.set (i + Y.length) c) t = 0)∧ab (L.set (i + Y.length) c) = ab (X.take (i + 1)) * ab Y:=by
 have hLl : L.length = X.length + Y.length:=by rw [hr] at hl; simpa using hl
 have e : j = Y.length:=by omega
 subst e
 rw [List.length_map]
 refine ⟨hi,by rw [hr,List.map_set]; rfl,by simpa using hl,hL.set hc,fun t ht=>by rw [dU (by omega)]; exact hz t (by omega),?_⟩
 rw [jU (by omega),hz _ (Nat.le_refl _),bf hi,Int.sub_zero,hv,hV,List.take_of_length_le (Nat.le_refl _),Int.add_mul,Int.mul_assoc]
theorem tH{n : Nat}{L : List Int}{R : List (List D)}(hr : R = L.map ao)(hl : R.length = n) : R.take n = L.map ao:=by rw [List.take_of_length_le (by omega),hr]
theorem GL{X Y L : List Int}{k : Nat}(hv : ab L = ab (X.take k) * ab Y)(hk : k≤X.length)(h : X.length≤k) : (ab L).toNat = (ab X * ab Y).toNat:=by
 rw [hv,List.take_of_length_le h]
set_option maxHeartbeats 1000000 in
theorem Jq(X Y : List Int)(hX : Dg X)(hY : Dg Y)(hn : X.length≤400)(hm : Y.length≤400) : CallA Tryz.prog 361 [.one (.d (dP X)),.one (.d (dP Y))] [] (.one (.d (bd (ab X * ab Y).toNat))) []:=by
 refine enter af Tryz.func361 rfl (by decide +kernel) rfl fun hok w0 σ0 φ0 M=>?_
 clear hok
 repeat' (first|(refine h1H ?_; (refine h8H ?_; refine fY aq 10 J J J (cK (n:=X.length + Y.length) J J J J J (by simp) (by simp) (by omega) (Nat.le_of_ble_eq_true J)) J J ?_))|(refine h1H ?_; (refine h0H ?_; refine dW 40 [10] J J J J J J J J J (lZ _ p.2.1 _ (tH hr hl2) hL (GL hv hk (by simpa using h))) J J J ?_))|refine wG ?_|(refine h5H ?_; first|refine ai J (fun h=>?_) (fun h=>?_)|refine cE 7 J [(1,_),(5,_),(6,_),(7,_),(17,_),(18,_),(19,_),(24,_),(25,_)] (q9Q J J J J J J J J J) (fun (q : Nat×Int×List Int×List (List D))=>[(26,.one (.d (.int .i64 (q.1 : Int)))),(8,.one (.d (.int .u64 q.2.1)))]) (fun (q : Nat×Int×List Int×List (List D))=>[(10,.row 1 4 q.2.2.2)]) (fun (q : Nat×Int×List Int×List (List D))=>q.1≤Y.length∧q.2.2.2 = q.2.2.1.map ao∧q.2.2.2.length = X.length + Y.length∧Dg q.2.2.1∧(0≤q.2.1∧q.2.1 < 4294967296)∧(∀ t,p.1 + Y.length≤t→at_ q.2.2.1 t = 0)∧ab q.2.2.1 + pw (p.1 + q.1) * q.2.1 = ab p.2.1 + pw p.1 * (at_ X p.1 * ab (Y.take q.1))) (fun (q : Nat×Int×List Int×List (List D))=>Y.length - q.1) (0,0,p.2.1,p.2.2) (q2Q J J) wK ?_ (fun q ⟨hqk,hqr,hql,hqL,hqc,hqz,hqv⟩=>?_)|refine cE 3 J [(1,_),(5,_),(17,_),(18,_)] (q4Q J J J J) (fun (p : Nat×List Int×List (List D))=>[(19,.one (.d (.int .i64 (p.1 : Int))))]) (fun (p : Nat×List Int×List (List D))=>[(10,.row 1 4 p.2.2)]) (fun (p : Nat×List Int×List (List D))=>p.1≤X.length∧p.2.2 = p.2.1.map ao∧p.2.2.length = X.length + Y.length∧Dg p.2.1∧(∀ t,p.1 + Y.length≤t→at_ p.2.1 t = 0)∧ab p.2.1 = ab (X.take p.1) * ab Y) (fun (p : Nat×List Int×List (List D))=>X.length - p.1) (0,List.replicate (X.length + Y.length) 0,List.replicate (X.length + Y.length) [.int .u32 0]) (q1Q J) wK ?_ (fun p ⟨hk,hr,hl2,hL,hz,hv⟩=>?_))|(show Exists _; first|refine Exists.intro ((p.1 + 1,q.2.2.1.set (p.1 + Y.length) q.2.1,q.2.2.2.set (p.1 + (Y.map ao).length) [.int .u32 q.2.1])) ⟨?_,?_,wK,(q1Q J),(q4Q J J J J)⟩|refine Exists.intro ((q.1 + 1,(ug q.2.1 (at_ X p.1) (at_ Y q.1) (at_ q.2.2.1 (p.1 + q.1))).fdiv (2 ^ min (Int.toNat 32) IntKind.u64.bits),q.2.2.1.set (p.1 + q.1) (IntKind.u32.wrap (ug q.2.1 (at_ X p.1) (at_ Y q.1) (at_ q.2.2.1 (p.1 + q.1)))),q.2.2.2.set (p.1 + q.1) [.int .u32 (IntKind.u32.wrap (ug q.2.1 (at_ X p.1) (at_ Y q.1) (at_ q.2.2.1 (p.1 + q.1))))])) ⟨?_,?_,wK,(q2Q J J),(q9Q J J J J J J J J J)⟩))
 ·exact ⟨Nat.zero_le _,by simp [ao],by simp,Dg.zeros _,fun t _=>by
   show at_ (List.replicate _ (0 : Int)) t = 0
   simp only [at_,List.getD_eq_getElem?_getD,List.getElem?_replicate]
   split <;> rfl,by
   show ab (List.replicate _ (0 : Int)) = ab (X.take 0) * ab Y
   rw [Bz,List.take_zero]; simp [ab]⟩
 ·exact ⟨Nat.zero_le _,hr,hl2,hL,⟨Int.le_refl _,by show (0 : Int) < 4294967296; omega⟩,hz,by
   show ab p.2.1 + pw (p.1 + 0) * 0 = ab p.2.1 + pw p.1 * (at_ X p.1 * ab (Y.take 0))
   rw [List.take_zero]; simp [ab]⟩
 ·exact E5 rfl hX hY (by simpa using ‹decide ((p.1 : Int) < ((X.map ao).length : Int)) = true›) (by simpa using h) hqr hql hqL hqc hqz hqv
 ·have hlt : q.1 < Y.length:=by simpa using h
  show Y.length - (q.1 + 1) < Y.length - q.1
  omega
 ·exact GK hX hY (by simpa using ‹decide ((p.1 : Int) < ((X.map ao).length : Int)) = true›) hqk (by simpa using h) hqr hql hqL hqc hqz hv hqv
 ·have hlt : p.1 < X.length:=by simpa using ‹decide ((p.1 : Int) < ((X.map ao).length : Int)) = true›
  show X.length - (p.1 + 1) < X.length - p.1
  omega
 ·rfl
theorem xx(m n : Nat)(hm : (dig m).length≤400)(hn : (dig n).length≤400) : CallA Tryz.prog 361 [.one (.d (bd m)),.one (.d (bd n))] [] (.one (.d (bd (m * n)))) []:=by
 obtain ⟨a1,a2,a3⟩:=b7 m
 obtain ⟨b1,b2,b3⟩:=b7 n
 have:=Jq (dig m) (dig n) a1 b1 hm hn
 rwa [a2,b2,show ((m : Int) * (n : Int)).toNat = m * n by rw [← Int.natCast_mul]; rfl] at this
def smT(r x : Int) : Int:=IntKind.u64.wrap ((BitVec.ofInt IntKind.u64.bits (IntKind.u64.wrap (r * 2 ^ min (Int.toNat 32) IntKind.u64.bits)) ||| BitVec.ofInt IntKind.u64.bits (IntKind.u64.wrap x)).toNat : Int)
theorem ue{a b : Nat}(ha : a < 4294967296)(hb : b < 4294967296) : ((BitVec.ofInt 64 ((a : Int) * 4294967296) ||| BitVec.ofInt 64 (b : Int)).toNat) = a * 4294967296 + b:=by
 rw [BitVec.toNat_or]
 have e1 : (BitVec.ofInt 64 ((a : Int) * 4294967296)).toNat = a * 4294967296:=by rw [BitVec.toNat_ofInt]; simp; omega
 have e2 : (BitVec.ofInt 64 (b : Int)).toNat = b:=by rw [BitVec.toNat_ofInt]; simp; omega
 rw [e1,e2]
 have h:=Nat.shiftLeft_add_eq_or_of_lt (i:=32) (b:=b) (by omega) a
 rw [Nat.shiftLeft_eq] at h
 exact h.symm
theorem r7{r x : Int}(hr : 0≤r∧r < 4294967296)(hx : 0≤x∧x < 4294967296) : smT r x = r * 4294967296 + x:=by
 obtain ⟨a,rfl⟩:=Int.eq_ofNat_of_zero_le hr.1
 obtain ⟨b,rfl⟩:=Int.eq_ofNat_of_zero_le hx.1
 unfold smT
 rw [show ((a : Int) * 2 ^ min (Int.toNat 32) IntKind.u64.bits) = (a : Int) * 4294967296 from rfl,cU (v:=(a : Int) * 4294967296) (by omega) (by omega),cU (v:=(b : Int)) (by omega) (by omega)]
 have h:=ue (a:=a) (b:=b) (by omega) (by omega)
 rw [show ((BitVec.ofInt IntKind.u64.bits ((a : Int) * 4294967296) ||| BitVec.ofInt IntKind.u64.bits (b : Int)).toNat) = a * 4294967296 + b from h]
 rw [cU (by omega) (by omega)]
 omega
theorem wo{r x d : Int}(hd : 0 < d∧d < 4294967296)(hr : 0≤r∧r < d)(hx : 0≤x∧x < 4294967296) : 0≤smT r x∧IntKind.u64.wrap (smT r x / d) = smT r x / d∧0≤smT r x / d∧smT r x / d < 4294967296:=by
 have e:=r7 (r:=r) (x:=x) ⟨hr.1,by omega⟩ hx
 have h0 : 0≤smT r x:=by omega
 have h1 : 0≤smT r x / d:=Int.ediv_nonneg h0 (by omega)
 have h2 : smT r x / d < 4294967296:=by
  refine Int.ediv_lt_of_lt_mul hd.1 ?_
  rw [e]
  have : (r + 1) * 4294967296≤d * 4294967296:=Int.mul_le_mul_of_nonneg_right (by omega) (by omega)
  have e2 : 4294967296 * d = d * 4294967296:=Int.mul_comm _ _
  omega
 exact ⟨h0,cU h1 (by omega),h1,h2⟩
theorem G5{X L : List Int}{R : List (List D)}{i : Int}{r d : Int}(hX : Dg X)(hd : 0 < d∧d < 4294967296)(h0 : 0≤i)(h1 : i < (X.length : Int))(hr : R = L.map ao)(hl : R.length = X.length)(hL : Dg L)(hc : 0≤r∧r < d)
  (hv : ab (X.drop (i + 1).toNat) = ab (L.drop (i + 1).toNat) * d + r) :
  -1≤i - 1∧i - 1 < (X.length : Int)∧R.set i.toNat [.int .u32 (IntKind.u32.wrap (smT r (at_ X i.toNat) / d))] = (L.set i.toNat (IntKind.u32.wrap (smT r (at_ X i.toNat) / d))).map ao∧(R.set i.toNat [.int .u32 (IntKind.u32.wrap (smT r (at_ X i.toNat) / d))]).length = X.length ∧
  Dg (L.set i.toNat (IntKind.u32.wrap (smT r (at_ X i.toNat) / d)))∧(0≤smT r (at_ X i.toNat) % d∧smT r (at_ X i.toNat) % d < d) ∧
  ab (X.drop (i - 1 + 1).toNat) = ab ((L.set i.toNat (IntKind.u32.wrap (smT r (at_ X i.toNat) / d))).drop (i - 1 + 1).toNat) * d + smT r (at_ X i.toNat) % d:=by
 have hLl : L.length = X.length:=by rw [hr] at hl; simpa using hl
 obtain ⟨k,rfl⟩:=Int.eq_ofNat_of_zero_le h0
 simp only [Int.toNat_natCast]
 have hk : k < X.length:=by omega
 have hkL : k < L.length:=by omega
 obtain ⟨a1,a2,a3,a4⟩:=wo hd hc (hX.at hk)
 have ew : IntKind.u32.wrap (smT r (at_ X k) / d) = smT r (at_ X k) / d:=by rw [gX]; omega
 rw [ew]
 refine ⟨by omega,by omega,by rw [hr,List.map_set]; rfl,by simpa using hl,hL.set ⟨a3,a4⟩,⟨Int.emod_nonneg _ (by omega),Int.emod_lt_of_pos _ hd.1⟩,?_⟩
 rw [show ((k : Int) - 1 + 1).toNat = k by omega,aj hk,aj (l:=L.set k _) (by simpa using hkL)]
 rw [show ((k : Int) + 1).toNat = k + 1 by omega] at hv
 have e1 : at_ (L.set k (smT r (at_ X k) / d)) k = smT r (at_ X k) / d:=by simp [at_,hkL]
 rw [e1,List.drop_set_of_lt (by omega)]
 simp only [ab]
 rw [hv]
 have e2:=r7 (r:=r) (x:=at_ X k) ⟨hc.1,by omega⟩ (hX.at hk)
 have e3:=Int.mul_ediv_add_emod (smT r (at_ X k)) d
 generalize smT r (at_ X k) = T at e2 e3 ⊢
 generalize T / d = q at e3 ⊢
 generalize T % d = m at e3 ⊢
 generalize ab (L.drop (k + 1)) = N
 have e4 : (q + 4294967296 * N) * d = d * q + 4294967296 * (N * d):=by rw [Int.add_mul,Int.mul_comm q d,Int.mul_assoc]
 rw [e4,Int.mul_add]
 omega
theorem DR{X L : List Int}{i r d : Int}(hd : 0 < d)(h0 : ¬ 0≤i)(h1 : -1≤i)(hc : 0≤r∧r < d)(hv : ab (X.drop (i + 1).toNat) = ab (L.drop (i + 1).toNat) * d + r) : ab L = ab X / d∧r = ab X % d:=by
 rw [show (i + 1).toNat = 0 by omega,List.drop_zero,List.drop_zero] at hv
 have:=Int.ediv_emod_unique (a:=ab X) (b:=d) (q:=ab L) (r:=r) hd
 have h:=this.2 ⟨by rw [hv,Int.mul_comm d]; omega,hc.1,hc.2⟩
 exact ⟨h.1.symm,h.2.symm⟩
set_option maxHeartbeats 1000000 in
theorem Jz(X : List Int)(d : Int)(hX : Dg X)(hn : X.length≤400)(hd : 0 < d∧d < 4294967296) : CallA Tryz.prog 371 [.one (.d (dP X)),.one (.d (.int .u32 d))] [] (.tup [(false,[.d (bd (ab X / d).toNat)]),(false,[.d (.int .u32 (ab X % d))])]) []:=by
 refine enter af Tryz.func371 rfl (by decide +kernel) rfl fun hok w0 σ0 φ0 M=>?_
 clear hok
 repeat' (first|(refine h1H ?_; (refine h8H ?_; refine fY aq 10 J J J (cK (n:=X.length) J J J J J (by simp) (by simp) (by omega) (Nat.le_of_ble_eq_true J)) J J ?_))|(refine h1H ?_; (refine EP ?_; refine s_e aq J J J (kT J J J J (wo hd hc (hX.at (show p.1.toNat < X.length from wB))).1 hd.1 (wo hd hc (hX.at (show p.1.toNat < X.length from wB))).2.1) ?_))|(refine h1H ?_; (refine EO ?_; refine s_e aq J J J (kS J J J J (wo hd hc (hX.at (show p.1.toNat < X.length from wB))).1 hd.1) ?_))|(refine h1H ?_; (refine h0H ?_; refine dW 40 [10] J J J J J J J J J (lZ _ p.2.2.1 _ (tH hr hl2) hL (congrArg Int.toNat (DR hd.1 (of_decide_eq_false h) hk hc hv).1)) J J J ?_))|refine wG ?_|(refine h5H ?_; first|refine ai J (fun h=>?_) (fun h=>?_)|refine cE 4 J [(0,_),(1,_),(6,_)] (q3Q J J J) (fun (p : Int×Int×List Int×List (List D))=>[(8,.one (.d (.int .i64 p.1))),(7,.one (.d (.int .u64 p.2.1)))]) (fun (p : Int×Int×List Int×List (List D))=>[(10,.row 1 4 p.2.2.2)]) (fun (p : Int×Int×List Int×List (List D))=>-1≤p.1∧p.1 < (X.length : Int)∧p.2.2.2 = p.2.2.1.map ao∧p.2.2.2.length = X.length∧Dg p.2.2.1∧(0≤p.2.1∧p.2.1 < d)∧ab (X.drop (p.1 + 1).toNat) = ab (p.2.2.1.drop (p.1 + 1).toNat) * d + p.2.1) (fun (p : Int×Int×List Int×List (List D))=>(p.1 + 1).toNat) ((((X.map ao).length : Int) - 1),0,List.replicate X.length 0,List.replicate X.length [.int .u32 0]) (q2Q J J) wK ?_ (fun p ⟨hk,hk2,hr,hl2,hL,hc,hv⟩=>?_))|(show Exists _; refine Exists.intro (((p.1 - 1),smT p.2.1 (at_ X p.1.toNat) % d,p.2.2.1.set p.1.toNat (IntKind.u32.wrap (smT p.2.1 (at_ X p.1.toNat) / d)),p.2.2.2.set p.1.toNat [.int .u32 (IntKind.u32.wrap (smT p.2.1 (at_ X p.1.toNat) / d))])) ⟨?_,?_,wK,(q2Q J J),(q3Q J J J)⟩))
 ·refine ⟨by simp; omega,by simp; omega,by simp [ao],by simp,Dg.zeros _,⟨Int.le_refl _,hd.1⟩,?_⟩
  show ab (X.drop ((((X.map ao).length : Int) - 1 + 1).toNat)) = ab ((List.replicate X.length 0).drop ((((X.map ao).length : Int) - 1 + 1).toNat)) * d + 0
  rw [List.length_map,show ((X.length : Int) - 1 + 1).toNat = X.length by omega,List.drop_length,List.drop_eq_nil_of_le (by simp)]
  simp [ab]
 ·exact G5 hX hd (of_decide_eq_true h) hk2 hr hl2 hL hc hv
 ·have h0 : 0≤p.1:=of_decide_eq_true h
  show (p.1 - 1 + 1).toNat < (p.1 + 1).toNat
  omega
 ·show AV.tup [(false,[.d (bd (ab X / d).toNat)]),(false,[.d (.int .u32 p.2.1)])] = _
  rw [(DR hd.1 (of_decide_eq_false h) hk hc hv).2]
theorem Kv(n d : Nat)(hn : (dig n).length≤400)(hd : 0 < d∧d < 4294967296) : CallA Tryz.prog 371 [.one (.d (bd n)),.one (.d (.int .u32 d))] [] (.tup [(false,[.d (bd (n / d))]),(false,[.d (.int .u32 (n % d : Nat))])]) []:=by
 obtain ⟨a1,a2,a3⟩:=b7 n
 have:=Jz (dig n) d a1 hn (by omega)
 rwa [a2,show ((n : Int) / (d : Int)).toNat = n / d by rw [← Int.natCast_ediv]; rfl,show ((n : Int) % (d : Int)) = ((n % d : Nat) : Int) from (Int.natCast_emod n d).symm] at this
end Go.Proofs.YtpejdgkaapnekaaGreat
