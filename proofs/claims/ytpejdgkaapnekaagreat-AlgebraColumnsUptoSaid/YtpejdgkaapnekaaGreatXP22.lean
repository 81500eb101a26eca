import Derived.Test.YtpejdgkaapnekaaGreatXP21
import Derived.Test.YtpejdgkaapnekaaGreatXP15
import Derived.Test.YtpejdgkaapnekaaGreatXP18
import Derived.Test.YtpejdgkaapnekaaGreatXP13
import Derived.Test.YtpejdgkaapnekaaGreatXP12
set_option linter.unusedVariables false
set_option linter.unusedSimpArgs false
set_option maxHeartbeats 1000000
namespace Go.Proofs.YtpejdgkaapnekaaGreat
open Go Go.Abs
attribute [local irreducible] ae OkC ar aA av aN OkR rT cN iQ vB
set_option maxRecDepth 10000
def fE(li : LI)(fr : List (Nat×AV))(A C : List D)(r : Nat)(l : List Val) : Sto :=
 [(1000000,.loop li fr .ready none),(1000001,.box (A.map .d)),(1000002,.box (C.map .d)),(1000003,.box [.own r l.length]),(r,.row 4 40 (l.map ab))]
theorem MU(li : LI)(fr : List (Nat×AV))(A C : List D)(hf : ∀ a,jc (fE li fr A C 2000000 a) fr = true) : FamW (fE li fr A C 2000000):=by
 refine ⟨fun a i e h=>?_,fun a=>?_,fun a=>⟨li,fr,.ready,none,rfl⟩,fun a=>rfl⟩
 ·unfold fE at h
  rcases ai h with ⟨rfl,_⟩ | ⟨_,h⟩
  ·omega
  rcases ai h with ⟨rfl,_⟩ | ⟨_,h⟩
  ·omega
  rcases ai h with ⟨rfl,_⟩ | ⟨_,h⟩
  ·omega
  rcases ai h with ⟨rfl,_⟩ | ⟨_,h⟩
  ·omega
  rcases ai h with ⟨rfl,_⟩ | ⟨_,h⟩
  ·omega
  ·exact nomatch h
 ·show (jc (fE li fr A C 2000000 a) fr && (eC (fE li fr A C 2000000 a) (A.map .d) && (eC (fE li fr A C 2000000 a) (C.map .d) && _))) = true
  rw [hf a,pM,pM]; rfl
theorem TB{li : LI}{fr : List (Nat×AV)}{A C : List D}(ds : List Dim)(ats : List Attr)(at' : List Int)(vs : List Val)(a : List Val)(x : Scalar)
  (hps : (jj li.n li.params.toList && Nat.beq li.params.toList.length 1) = true)
  (h : ∀ (w0 : World) (σ0 : Sig) (φ0 : Pl) (M : Nat→Prop) (B : Nat),OkC Tryz.prog ⟨w0,σ0,φ0,M,li.n,some B,[]⟩ li.assign ⟨fY li.params.toList [de x] fr,fE li fr A C 2000000 a⟩
   (iQ Tryz.prog 1000000 ⟨w0,σ0,φ0,M,li.n,some B,[]⟩ li.body (.one (.d (.bool (fe ds ats at' vs a x).1))) (fE li fr A C 2000000 (fe ds ats at' vs a x).2))) :
  YieldA Tryz.prog 1000000 [de x] (fE li fr A C 2000000 a) (.one (.d (.bool (fe ds ats at' vs a x).1))) (fE li fr A C 2000000 (fe ds ats at' vs a x).2) :=
 qz ⟨by omega,by omega⟩ rfl hps h
def TC(i : Nat) : Nat:=bif Nat.beq i 2000000 then 5 else i
def TE(i : Nat) : Nat:=bif Nat.beq i 1000004 then 2000000 else i
theorem wO{sto : Sto}{li : LI}{fr : List (Nat×AV)}{A C : List D}{l : List Val}{v : Val}{m : Nat}(hm : m≤l.length)(h1 : Abs.look sto 1000000 = some (.loop li fr .ready none))(h2 : Abs.look sto 1000001 = some (.box (A.map .d)))(h3 : Abs.look sto 1000002 = some (.box (C.map .d)))
  (h5 : Abs.look sto 1000003 = some (.box [.own 2000000 (m + 1)])) (h6 : Abs.look sto 2000000 = some (.row 4 40 ((l.map ab).take m ++ [ab v]))) : SubL sto (fE li fr A C 2000000 (l.take m ++ [v])):=by
 refine ⟨h1,h2,h3,?_,?_,trivial⟩
 ·rw [h5]; simp [Nat.min_eq_left hm]
 ·rw [h6]; simp [List.map_take]
theorem EP{sto : Sto}{li : LI}{fr : List (Nat×AV)}{A C : List D}{l : List Val}{v : Val}(h1 : Abs.look sto 1000000 = some (.loop li fr .ready none))(h2 : Abs.look sto 1000001 = some (.box (A.map .d)))(h3 : Abs.look sto 1000002 = some (.box (C.map .d)))
  (h5 : Abs.look sto 1000003 = some (.box [.own 2000000 (l.length + 1)])) (h6 : Abs.look sto 2000000 = some (.row 4 40 ((l.map ab).take l.length ++ [ab v]))) : SubL sto (fE li fr A C 2000000 (l ++ [v])):=by
 have:=wO (Nat.le_refl _) h1 h2 h3 h5 h6
 rwa [List.take_length] at this
set_option maxHeartbeats 4000000 in
theorem Tm(ds : List Dim)(ats : List Attr)(cs : D)(s : Scalar)(at' : List Int)(vs : List Val)(hp : dc s = true)(hsz : (aY s).length≤64)(hn : ∀ z∈aY s,qT ds ats z)(hat : at'.length = ds.length)(hvs : vs.length = ats.length) :
  CallA Tryz.prog 102 [.agg [.d (aF ds),.d (ax ats),.d cs],de s,.agg [.d (aM at'),.d (aG vs)]] [] (bc (gy ds ats at' vs s)) []:=by
 obtain ⟨h0,hR⟩:=Oc (ds:=ds) (ats:=ats) (at':=at') (vs:=vs) s hp hn [] (by simp; omega)
 refine enter af Tryz.func102 rfl (by decide +kernel) rfl fun hok w0 σ0 φ0 M=>?_
 clear hok
 repeat' (first|(refine h1H ?_; (refine h0H ?_; refine az 16 J J J J J J J J (HK _) J J J ?_))|refine wG ?_)
 have hC:=fun li fr hf hY=>HL (fE li fr [aF ds,ax ats,cs] [aM at',aG vs] 2000000) (MU li fr _ _ hf) (fe ds ats at' vs) (uY ds ats) hY s [] h0
 rw [hR] at hC
 refine B5 (uJ 4 5 (k:=4) (b:=40) rfl rfl) ?_
 refine qw (f:=216) (caps:=[.ptr (qU s)]) (rav:=.tup []) [0,2,4,5] 10 rfl rfl rfl rfl (xr TE TC (hC _ _ (fun a=>?_) (fun a x hok=>?_)) rfl rfl rfl rfl rfl rfl rfl) rfl (fun h=>?_) (fun h=>?_)
 ·rfl
 ·obtain ⟨hnm,hpx,h64,hargs⟩:=hok
  refine TB ds ats at' vs a x rfl fun w0 σ0 φ0 M B=>?_
  clear hC hR h0
  by_cases h1 : x.op = 1
  ·have e : fe ds ats at' vs a x = (true,a ++ [x.val]):=by simp [fe,h1]
   have hb1 : (x.op == 1) = true:=by simp [h1]
   rw [e]
   repeat' (first|(refine h1H ?_; (refine h0H ?_; refine eH af J J J J J J J J J J J J J (by show List.length a≤100000000; omega) (Nat.le_of_ble_eq_true J) (Nat.le_of_ble_eq_true J) ?_))|refine wG ?_|(show cN _ _ _ _ _; refine fX J ?_ ?_))
   ·rfl
   ·exact EP (by kernel_rfl) (by kernel_rfl) (by kernel_rfl) (by kernel_rfl) (by kernel_rfl)
  have hb1 : (x.op == 1) = false:=by simp [h1]
  by_cases h2 : x.op = 2
  ·have hb2 : (x.op == 2) = true:=by simp [h2]
   have e : fe ds ats at' vs a x = (true,a ++ [at_ vs (atI ats x.name).toNat]):=by simp [fe,h2]
   have hr0:=hnm.1 h2
   obtain ⟨hr1,hr2⟩:=fL (p:=fun a : Attr=>a.name == x.name) (l:=ats) (k:=0) hr0
   rw [e]
   repeat' (first|(refine h1H ?_; (refine h0H ?_; refine eH af J J J J J J J J J J J J J (by show List.length a≤100000000; omega) (Nat.le_of_ble_eq_true J) (Nat.le_of_ble_eq_true J) ?_))|(refine h3H ?_; (refine h2H ?_; refine d_l J J (aB J J J J J J (zu _ _ _ _) J) ?_))|refine wG ?_|(show cN _ _ _ _ _; refine fX J ?_ ?_))
   ·rfl
   ·exact EP (by kernel_rfl) (by kernel_rfl) (by kernel_rfl) (by kernel_rfl) (by kernel_rfl)
  have hb2 : (x.op == 2) = false:=by simp [h2]
  by_cases h3 : x.op = 3
  ·have hb3 : (x.op == 3) = true:=by simp [h3]
   have e : fe ds ats at' vs a x = (true,a ++ [⟨2,at_ at' (lZ ds x.name).toNat,1,[]⟩]):=by simp [fe,h3]
   have hr0:=hnm.2 h3
   obtain ⟨hr1,hr2⟩:=fL (p:=fun a : Dim=>a.name == x.name) (l:=ds) (k:=0) hr0
   rw [e]
   repeat' (first|(refine h1H ?_; (refine h0H ?_; refine eH af J J J J J J J J J J J J J (by show List.length a≤100000000; omega) (Nat.le_of_ble_eq_true J) (Nat.le_of_ble_eq_true J) ?_))|(refine h3H ?_; (refine h2H ?_; first|refine d_l J J (aB J J J J J J (vN _ _ _ _) J) ?_|refine d_l J J (aB J J J J J J (Qj _) J) ?_))|refine wG ?_|(show cN _ _ _ _ _; refine fX J ?_ ?_))
   ·rfl
   ·exact EP (by kernel_rfl) (by kernel_rfl) (by kernel_rfl) (by kernel_rfl) (by kernel_rfl)
  have hb3 : (x.op == 3) = false:=by simp [h3]
  obtain ⟨hop,hlen⟩:=jR hpx h1 h2 h3
  have hal:=hargs hop.1
  obtain ⟨m,hm⟩ : ∃ m : Nat,a.length = m + x.args.length:=⟨a.length - x.args.length,by omega⟩
  have hml : a.length - x.args.length = m:=by omega
  have hsub : ((a.length : Int) - (x.args.length : Int)) = (m : Int):=by omega
  have hC:=To x.op (a.drop m) hop (by simp; omega)
  have e : fe ds ats at' vs a x = (true,a.take m ++ [(doF x.op (a.drop m)).1]):=by
   simp only [fe]; rw [if_neg h1,if_neg h2,if_neg h3,hml]
  rw [e]
  repeat' (first|refine wG ?_)
  simp only [List.length_map]
  rw [hsub]
  rcases Nat.eq_zero_or_pos m with h0 | h0
  ·have hC' : CallA Tryz.prog 186 [.one (.d (.int .i64 x.op)),.one (.d (.sl 4 40 ((a.map ab).take a.length)))] [] (cW (doF x.op (a.drop m))) []:=by
    have e1 : aG (a.drop m) = .sl 4 40 ((a.map ab).take a.length):=by rw [List.take_of_length_le (by simp)]; simp [aG,h0]
    rw [e1] at hC; exact hC
   refine d_e au rfl rfl rfl (oN rfl rfl rfl (by rw [h0]; rfl) rfl rfl (by simp)) ?_
   refine r8 [2000000] rfl rfl rfl rfl rfl rfl rfl rfl rfl hC' rfl ?_
   repeat' (first|refine wG ?_)
   refine s_e au rfl rfl rfl (fp rfl rfl rfl rfl rfl rfl (by omega) (by show Int.toNat (m : Int)≤List.length a; omega) (by simp)) ?_
   repeat' (first|(refine h1H ?_; (refine h0H ?_; refine eH af J J J J J J J J J J J J J (by show Int.toNat (m : Int)≤100000000; omega) (Nat.le_of_ble_eq_true J) (Nat.le_of_ble_eq_true J) ?_))|refine wG ?_|(show cN _ _ _ _ _; refine fX J ?_ ?_))
   ·rfl
   ·exact wO (by omega) (by kernel_rfl) (by kernel_rfl) (by kernel_rfl) (by kernel_rfl) (by kernel_rfl)
  ·have hC' : CallA Tryz.prog 186 [.one (.d (.int .i64 x.op)),.one (.d (.sl 4 40 (((a.map ab).drop m).take (a.length - m))))] [] (cW (doF x.op (a.drop m))) []:=by
    have e1 : aG (a.drop m) = .sl 4 40 (((a.map ab).drop m).take (a.length - m)):=by
     rw [List.take_of_length_le (by simp)]; simp [aG,List.map_drop]
    rw [e1] at hC; exact hC
   refine d_e au rfl rfl rfl (qn rfl rfl rfl rfl rfl rfl (by omega) (by show Int.toNat (m : Int)≤List.length a; omega) (by simp)) ?_
   refine r8 [2000000] rfl rfl rfl rfl rfl rfl rfl rfl rfl hC' rfl ?_
   repeat' (first|refine wG ?_)
   refine s_e au rfl rfl rfl (fp rfl rfl rfl rfl rfl rfl (by omega) (by show Int.toNat (m : Int)≤List.length a; omega) (by simp)) ?_
   repeat' (first|(refine h1H ?_; (refine h0H ?_; refine eH af J J J J J J J J J J J J J (by show Int.toNat (m : Int)≤100000000; omega) (Nat.le_of_ble_eq_true J) (Nat.le_of_ble_eq_true J) ?_))|refine wG ?_|(show cN _ _ _ _ _; refine fX J ?_ ?_))
   ·rfl
   ·exact wO (by omega) (by kernel_rfl) (by kernel_rfl) (by kernel_rfl) (by kernel_rfl) (by kernel_rfl)
 ·rintro ⟨w1,σ1,φ1,M1,n1,rd1,mk1⟩ ⟨hn1,hrd,_⟩
  dsimp only at hn1 hrd
  subst hn1 hrd
  clear hC hR h0
  refine bf (vD (f':=[(6,.one (.ref 3 0)),(7,.one (.ref 4 0))]) (s':=[(3,.box [.d (.int .i64 0),.d (.int .i64 0),.d (.int .i64 0),.d (.str [])]),(4,.box [.own 16 1]),(16,.row 4 40 [ab (gy ds ats at' vs s)])]) (aj (by kernel_rfl) (aj (by kernel_rfl) aZ)) (aj (by kernel_rfl) (aj (by kernel_rfl) (aj (by kernel_rfl) aZ)))) ?_
  repeat' (first|(refine h1H ?_; (refine KI ?_; refine s_e au J J J (dS J J J J J J) ?_))|refine wG ?_)
  rfl
 ·exact absurd h (by simp [fE])
end Go.Proofs.YtpejdgkaapnekaaGreat
namespace Go.Proofs.YtpejdgkaapnekaaGreat
open Go Go.Abs
attribute [local irreducible] ae OkC ar aA av aN
set_option maxRecDepth 10000
theorem uP : ∀ {l : List Scalar} {x : Scalar},x∈l→(aY x).length≤(aT l).length
 | [],x,h=>by simp at h
 | y::r,x,h=>by
   simp only [aT,List.length_append]
   rcases List.mem_cons.1 h with rfl | h
   ·omega
   ·have:=uP h; omega
def pX(l : List Int) : Sum Int (List Int)→Sum Int (List Int)
 | .inl e=>.inl e
 | .inr t=>.inr (l ++ t)
theorem HV{l m : List Int} : ∀ {x : Sum Int (List Int)},pX (l ++ m) x = pX l (pX m x)
 | .inl _=>rfl
 | .inr t=>by simp [pX]
def Gb(o : Int) : Sum Int (List Int)→Int×Int
 | .inl e=>(0,e)
 | .inr l=>bM o l
theorem HW{cst : Val→Int}{ds : List Dim}{ats : List Attr}{s : Scalar} : cy cst ds ats s = if s.op = 1 then (cst s.val,0) else if s.op = 2 then jo ats s.name else if s.op = 3 then ly ds s.name else Gb s.op (cb cst ds ats s.args):=by
 rw [kU]
 cases cb cst ds ats s.args <;> rfl
theorem Sf{sto : Sto}{l : List Int}{t : Int}(h : Abs.look sto 5 = some (.row 1 8 ((l.map bJ).take l.length ++ [[.int .i64 t]]))) : Abs.look sto 5 = some (.row 1 8 ((l ++ [t]).map bJ)):=by
 rw [h,List.take_of_length_le (by simp)]; simp [bJ]
theorem Sg{fr : List (Nat×AV)}{l : List Int}{t : Int}(h : Abs.look fr 7 = some (.one (.own 5 (l.length + 1)))) : Abs.look fr 7 = some (.one (.own 5 (l ++ [t]).length)):=by
 rw [h]; simp
set_option maxHeartbeats 4000000 in
theorem c93(ds : List Dim)(ats : List Attr)(cs : D)(s : Scalar) : dc s = true→(aY s).length≤64→CallA Tryz.prog 93 [.agg [.d (aF ds),.d (ax ats),.d cs],de s] [] (ie (cy gV ds ats s)) []:=by
 induction s using Scalar.ind with
 | h s ih =>
   intro hp hsz
   rw [gp,Bool.and_eq_true] at hp
   have hps:=gz hp.2
   rw [dN,List.length_append,List.length_cons,List.length_nil] at hsz
   have hlen:=me (r:=s.args)
   have hsz2 : ∀ x∈s.args,(aY x).length≤64:=fun x hx=>by have:=uP hx; omega
   rw [HW]
   refine enter af Tryz.func93 rfl (by decide +kernel) rfl fun hok w0 σ0 φ0 M=>?_
   have hats : ats.length < 281474976710656:=by
    have:=(OkD.sl (hok.1 (.d (ax ats)) (by simp))).1; simpa using this
   clear hok
   by_cases h1 : s.op = 1
   ·have hb1 : (s.op == 1) = true:=by simp [h1]
    rw [if_pos h1]
    repeat' (first|refine wG ?_|(refine h4H ?_; refine ah J (fun h=>?_) (fun h=>?_)))
    all_goals simp_all [gV,ie]
   have hb1 : (s.op == 1) = false:=by simp [h1]
   rw [if_neg h1]
   by_cases h2 : s.op = 2
   ·have hb2 : (s.op == 2) = true:=by simp [h2]
    rw [if_pos h2]
    by_cases hi : atI ats s.name < 0
    ·have hd : decide (aL (fun a : Attr=>a.name == s.name) ats 0 < 0) = true:=by simpa [atI] using hi
     repeat' (first|(refine h1H ?_; (refine h0H ?_; refine aa J J J J J J J J (qK _ _) J ?_))|refine wG ?_)
     simp [jo,hi,ie]
    ·have hd : decide (aL (fun a : Attr=>a.name == s.name) ats 0 < 0) = false:=by simpa [atI] using hi
     obtain ⟨hr1,hr2⟩:=fL (p:=fun a : Attr=>a.name == s.name) (l:=ats) (k:=0) (by simpa [atI] using hi)
     repeat' (first|(refine h1H ?_; (refine h0H ?_; refine aa J J J J J J J J (qK _ _) J ?_))|refine wG ?_)
     simp [jo,hi,ie]
     rfl
   have hb2 : (s.op == 2) = false:=by simp [h2]
   rw [if_neg h2]
   by_cases h3 : s.op = 3
   ·have hb3 : (s.op == 3) = true:=by simp [h3]
    rw [if_pos h3]
    by_cases hi : lZ ds s.name < 0
    ·have hd : decide (aL (fun a : Dim=>a.name == s.name) ds 0 < 0) = true:=by simpa [lZ] using hi
     repeat' (first|(refine h1H ?_; (refine h0H ?_; refine aa J J J J J J J J (vJ _ _) J ?_))|refine wG ?_)
     simp [ly,hi,ie]
    ·have hd : decide (aL (fun a : Dim=>a.name == s.name) ds 0 < 0) = false:=by simpa [lZ] using hi
     repeat' (first|(refine h1H ?_; (refine h0H ?_; refine aa J J J J J J J J (vJ _ _) J ?_))|refine wG ?_)
     simp [ly,hi,ie]
   have hb3 : (s.op == 3) = false:=by simp [h3]
   rw [if_neg h3]
   obtain ⟨hop,hal⟩:=jR hp.1 h1 h2 h3
   clear hats
   repeat' (first|refine wG ?_)
   refine bf (dT (s:=7) (id:=5) (k:=1) (b:=8) rfl rfl rfl rfl) ?_
   refine ca 21 rfl [(2,_),(3,_)] (q2Q rfl rfl) (fun (p : Nat×List Int)=>[(7,.one (.own 5 p.2.length)),(8,.one (.d (.int .i64 (p.1 : Int))))])
    (fun p=>[(0,.box [.d (aF ds),.d (ax ats),.d cs]),(1,.box [.d (.int .i64 s.op),.d (.str s.name),.d (.int .i64 s.val.kind),.d (.int .i64 s.val.num),.d (.int .i64 s.val.den),.d (.str s.val.str),.d (cI s.args)]),(5,.row 1 8 (p.2.map bJ))])
    (fun p=>p.1≤s.args.length∧p.2.length = p.1∧cb gV ds ats s.args = pX p.2 (cb gV ds ats (s.args.drop p.1))) (fun p=>s.args.length - p.1) (0,[])
    (q2Q rfl rfl) (q3Q rfl rfl rfl) ?_ (fun p ⟨hk,hl,hs⟩=>?_)
   ·refine ⟨Nat.zero_le _,rfl,?_⟩
    show _ = pX [] (cb gV ds ats (s.args.drop 0))
    simp only [List.drop_zero]
    cases cb gV ds ats s.args <;> rfl
   ·by_cases hk' : p.1 < s.args.length
    ·have hd : decide ((p.1 : Int) < ((s.args.map pY).length : Int)) = true:=by simpa using hk'
     repeat' (first|(refine h1H ?_; (refine h0H ?_; refine eH af J J J J J J J J J J J J J (by show List.length p.2≤100000000; omega) (Nat.le_of_ble_eq_true J) (Nat.le_of_ble_eq_true J) ?_))|(refine h3H ?_; (refine h2H ?_; refine d_l J J (aB J J J J J J (ih (at_ s.args p.1) (bT (by omega)) (hps _ (bT (by omega))) (hsz2 _ (bT (by omega)))) J) ?_))|refine wG ?_|(refine h4H ?_; refine ah J (fun h=>?_) (fun h=>?_)))
     ·have hb : ¬ (cy gV ds ats (at_ s.args p.1)).2 = 0:=by simpa using h
      rw [hs,ao hk']
      simp [cb,hb,pX,Gb,ie]
     have hb : (cy gV ds ats (at_ s.args p.1)).2 = 0:=by simpa using h
     refine ⟨(p.1 + 1,p.2 ++ [(cy gV ds ats (at_ s.args p.1)).1]),⟨by show p.1 + 1≤_; omega,by show (p.2 ++ [_]).length = _; simp [hl],?_⟩,by show s.args.length - (p.1 + 1) < s.args.length - p.1; omega,
      aj rfl (aj rfl ⟨Sf (by kernel_rfl),trivial⟩),⟨Sg (by kernel_rfl),aj rfl aZ⟩,aj rfl (q1Q rfl)⟩
     show cb gV ds ats s.args = pX (p.2 ++ [_]) (cb gV ds ats (s.args.drop (p.1 + 1)))
     rw [hs,ao hk',HV]
     simp only [cb,hb,ne_eq,not_true_eq_false,if_false]
     cases cb gV ds ats (s.args.drop (p.1 + 1)) <;> rfl
    ·have hd : decide ((p.1 : Int) < ((s.args.map pY).length : Int)) = false:=by simpa using hk'
     replace hk' : p.1 = s.args.length:=by omega
     have hts : cb gV ds ats s.args = .inr p.2:=by
      rw [hs,hk',List.drop_length]; simp [cb,pX]
     have hC' : CallA Tryz.prog 178 [.one (.d (.int .i64 s.op)),.one (.d (.sl 1 8 ((p.2.map bJ).take p.2.length)))] [] (ie (bM s.op p.2)) []:=by
      have:=QP s.op p.2 hop (by omega)
      have e1 : aM p.2 = .sl 1 8 ((p.2.map bJ).take p.2.length):=by rw [List.take_of_length_le (by simp)]; rfl
      rw [e1] at this; exact this
     rw [hts]
     repeat' (first|refine wG ?_)
     refine gx [5] rfl rfl rfl rfl rfl rfl rfl rfl rfl hC' rfl ?_
     repeat' (first|refine wG ?_)
     all_goals rfl
theorem OM(ds : List Dim)(ats : List Attr)(at' : List Int)(vs : List Val) : CallA Tryz.prog 131 [.one (.d (aF ds)),.one (.d (ax ats)),.agg [.d (aM at'),.d (aG vs)]] [] (.one (.d (.int .i64 (dn ds ats at' vs)))) []:=by
 refine enter af Tryz.func131 rfl (by decide +kernel) rfl fun hok w0 σ0 φ0 M=>?_
 have h1:=hok.1.sl.1; have h2:=hok.2.1.sl.1; have h3:=OkD.sl (hok.2.2.1 (.d (aM at')) (by simp)); have h4:=OkD.sl (hok.2.2.1 (.d (aG vs)) (by simp)); clear hok
 replace h3:=h3.1; replace h4:=h4.1; simp only [List.length_map] at h1 h2 h3 h4
 repeat' (first|(refine h1H ?_; (refine h0H ?_; refine aa J J J J J J J J (ON _ _) J ?_))|(refine h3H ?_; (refine h2H ?_; refine d_l J J (aB J J J J J J (OO _ _ _ _ _) J) ?_))|refine wG ?_|(refine h1H ?_; (refine h5H ?_; refine aJ J J J J (fun h=>?_) (fun h=>?_)))|(refine h4H ?_; first|refine ah J (fun h=>?_) (fun h=>?_)|refine aH 6 J [(1,_),(5,_)] (q2Q J J) (fun (k : Nat)=>[(7,.one (.d (.int .i64 k)))]) (fun (k : Nat)=>k≤ats.length∧at'.length = ds.length∧vs.length = ats.length∧ofF ds at' = true∧dn ds ats at' vs = jY (ats.drop k) (vs.drop k)) (fun (k : Nat)=>ats.length - k) 0 (q1Q J) ?_ (fun k ⟨hk,hq,hq2,hof,hs⟩=>?_))|(show Exists _; refine Exists.intro (k + 1) ⟨?_,?_,wK,(q1Q J),(q2Q J J)⟩))
 all_goals (try (((simp_all [dn,jY,ao,List.drop_eq_nil_of_le]) <;> exact wL); done))
theorem c89(ds : List Dim)(ats : List Attr)(cs : List Cell) : CallA Tryz.prog 89 [.agg [.d (aF ds),.d (ax ats),.d (aO cs)]] [] (.one (.d (.int .i64 (bI ds ats cs)))) []:=by
 refine enter af Tryz.func89 rfl (by decide +kernel) rfl fun hok w0 σ0 φ0 M=>?_
 have h1:=(OkD.sl (hok.1 (.d (aO cs)) (by simp))).1; clear hok; simp only [List.length_map] at h1
 repeat' (first|(refine h1H ?_; (refine h0H ?_; refine aa J J J J J J J J (Qs _ _) J ?_))|(refine h3H ?_; (refine h2H ?_; first|refine d_l J J (aB J J J J J J (OM _ _ _ _) J) ?_|refine d_l J J (aB J J J J J J (KP _ _) J) ?_))|refine wG ?_|(refine h4H ?_; first|refine ah J (fun h=>?_) (fun h=>?_)|refine aH 7 J [(1,_)] (q1Q J) (fun (k : Nat)=>[(4,.one (.d (.int .i64 k)))]) (fun (k : Nat)=>k≤cs.length∧c9 ds ats = 0∧(cs.length : Int)≤4096∧bI ds ats cs = c8 ds ats (pv cs k) (cs.drop k)) (fun (k : Nat)=>cs.length - k) 0 (q1Q J) ?_ (fun k ⟨hk,hsc,hq,hs⟩=>?_))|(show Exists _; refine Exists.intro (k + 1) ⟨?_,?_,wK,(q1Q J),(q1Q J)⟩))
 all_goals (try (((simp_all [bI,c8,rQ,yS,rR,yT,ao,List.drop_eq_nil_of_le]) <;> exact wL); done))
 ·rename_i hlt
  have hk' : k < cs.length:=by simpa using hlt
  have hb : dn ds ats (at_ cs k).at' (at_ cs k).vals≠0:=by simpa using h
  rw [hs,ao hk',sA hb]; simp
 ·rename_i hlt hc
  have hk' : k < cs.length:=by simpa using hlt
  have hk0 : k = 0:=by simpa using h
  have hb : dn ds ats (at_ cs k).at' (at_ cs k).vals = 0:=by simpa using hc
  refine ⟨by omega,hsc,hq,?_⟩
  rw [hs,ao hk',rR]
  subst hk0
  simp [c8,hb,rQ]
end Go.Proofs.YtpejdgkaapnekaaGreat
