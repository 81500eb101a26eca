import Derived.Shelf.Small.Bits
import Derived.Shelf.Small.Strs
import Derived.Test.YtpejdgkaapnekaaGreatGP22
import Derived.Test.YtpejdgkaapnekaaGreatGP15
import Derived.Test.YtpejdgkaapnekaaGreatGP17
import Derived.Test.YtpejdgkaapnekaaGreatGP6
import Derived.Test.YtpejdgkaapnekaaGreatGTab
import Derived.Test.YtpejdgkaapnekaaGreatGP23
import Derived.Test.YtpejdgkaapnekaaGreatGP14
set_option linter.unusedVariables false
set_option linter.unusedSimpArgs false
set_option linter.unnecessarySimpa false
set_option maxHeartbeats 1000000
namespace Go.Abs
open Go
theorem DV{V : Env}{st : St}{o : Oper}{t ty : TypeId}{x y : Operand}{k k' : IntKind}{a b : Int}(ho : o.op = .binOp .shl t x y ty)
  (hx : ev st x = some (.one (.d (.int k a)))) (hy : ev st y = some (.one (.d (.int k' b)))) (h0 : 0≤b) : aQ V st o 0 = some ⟨.one (.d (.int k (k.wrap (a * 2 ^ min b.toNat k.bits)))),[],[]⟩:=by
 have e : ¬ b < 0:=by omega
 simp only [aQ,cF,bQ,ho,hx,hy,nX,jh,cond_true,sc,cj,lh,ij,uU,e,decide_false,Bool.not_false,Bool.and_self]
 cases o.dst <;> simp [gq]
section
variable {P : Program} {V : Env} {T : Tab} {fr : List (Nat×AV)} {sto : Sto} {w0 : World} {σ0 : Sig} {φ0 : Pl} {M : Nat→Prop} {nn : Nat} {rd : Option Nat} {mk : List Deferred} {ops : Array Oper} {o : Oper} {rest : List Oper} {K : St→Prop}
theorem FL(hV : EnvOk P V){d : Nat}{t e : TypeId}{x y z : Operand}{id m k k' b b' lo n : Nat}{ik ik' : IntKind}{l h : Int}{xs : List (List D)}{zv : List D}(ho : o.op = .slice t x (some y) (some z) none)(hg : o.guard = none)(hdst : o.dst = some d)(hd : Nat.blt d nn = true)(ht : aR V.T t = some (e,k',b',zv))(hx : ev ⟨fr,sto⟩ x = some (.one (.own id m)))
  (hy : ev ⟨fr,sto⟩ y = some (.one (.d (.int ik l)))) (hz : ev ⟨fr,sto⟩ z = some (.one (.d (.int ik' h)))) (hl : look sto id = some (.row k b xs)) (hk : Nat.beq k k' = true) (h0 : l = (lo : Int)) (h1 : h = (lo : Int) + (n : Int)) (hm : lo + n≤m) (hxs : m≤xs.length)
  (hk2 : ac P ⟨w0,σ0,φ0,M,nn,rd,mk⟩ ops rest ⟨(d,.one (.sub id lo n))::fr,sto⟩ K) : ac P ⟨w0,σ0,φ0,M,nn,rd,mk⟩ ops (o::rest) ⟨fr,sto⟩ K:=by
 subst h0; subst h1
 have e1 : Nat.ble lo (lo + n) = true:=Nat.ble_eq.mpr (by omega)
 have e2 : Nat.ble (lo + n) xs.length = true:=Nat.ble_eq.mpr (by omega)
 have e3 : Nat.ble (lo + n) m = true:=Nat.ble_eq.mpr hm
 have e4 : (0 : Int)≤(lo : Int):=Int.natCast_nonneg _
 have e5 : (0 : Int)≤(lo : Int) + (n : Int):=by omega
 have e6 : ((lo : Int) + (n : Int)).toNat = lo + n:=by omega
 cases hb : Nat.beq lo 0 with
 | false =>
   refine s_e hV hg hdst hd ?_ hk2
   simp only [aQ,cF,bQ,ho,cj,fG,hx,hy,hz,e4,e5,decide_true,cond_true,fH,ht,hl,hk,Int.toNat_natCast,e6,e1,e2,e3,hb,Bool.and_self,Bool.false_and,cond_false,Nat.add_sub_cancel_left]
 | true =>
   have hlo : lo = 0:=Nat.eq_of_beq_eq_true hb
   refine s_e (v:=.one (.own id (lo + n))) hV hg hdst hd ?_ (dU ?_ hk2)
   ·simp only [aQ,cF,bQ,ho,cj,fG,hx,hy,hz,e4,e5,decide_true,cond_true,fH,ht,hl,hk,Int.toNat_natCast,e6,e1,e2,e3,hb,Bool.and_self,Bool.true_and,Bool.or_true]
   ·subst hlo
    rw [Nat.zero_add]
    intro a w σ φ hr
    refine ⟨σ,φ,⟨hr.le,hr.fresh,hr.inv,hr.mine,fun s v hv=>?_,hr.defers,hr.size,hr.fra,hr.pin⟩⟩
    rcases ah hv with ⟨rfl,rfl⟩ | ⟨hne,hv⟩
    ·obtain ⟨u,h1,h2⟩:=hr.slot s (.one (.own id n)) (by simp [look])
     exact ⟨u,h1,HU hr.inv (by simp only [bf,hl]) h2⟩
    ·have e7 : Nat.beq d s = false:=by
      cases h7 : Nat.beq d s with
      | false=>rfl
      | true=>exact absurd (Nat.eq_of_beq_eq_true h7).symm hne
     exact hr.slot s v (by simp only [look,e7,cond_false]; exact hv)
end
theorem ED{P : Program}{c : Ctx}{o : Oper}{st : St}{fop : Operand}{args : Array Operand}{ats : Array TypeId}{f : FuncId}{caps : List D}{rav : AV}(k : Nat){id m kk b b' : Nat}{xs ys : List (List D)}
  (ho : o.op = .call { callee:=.value fop,args:=args,argTypes:=ats }) (hd : aP c.n o.dst = true) (hl : look st.sto id = some (.row kk b xs)) (hf : ev st fop = some (.one (.d (.fn f caps))))
  (ha : evL st args.toList = some [.one (.own id m)]) (hC : CallA P f ([.one (.own 1000000 m)] ++ caps.map fun x=>.one (.d x)) [(1000000,.row kk b xs)] rav [(1000000,.row kk b ys)]) (hys : xs.length = ys.length)
  (hk : (fb [(1000000,id)] && iC [(1000000,id)] && fU [(1000000,AObj.row kk b xs)] [(1000000,id)] && fB [(1000000,id)] && cw [(1000000,id)] [(1000000,AObj.row kk b ys)] && da [(1000000,AObj.row kk b xs)] ([AV.one (.own 1000000 m)] ++ caps.map fun x=>.one (.d x)) && bd [(1000000,AObj.row kk b xs)] [(1000000,AObj.row kk b xs)] && cX [(1000000,AObj.row kk b ys)] rav && bd [(1000000,AObj.row kk b ys)] [(1000000,AObj.row kk b ys)] && Nat.ble (k + 16) 1000000) = true)
  (hrn : cJ (rn k [(1000000,id)]) [AV.one (.own 1000000 m)] = [.one (.own id m)]) (hrv : dr (rn k [(1000000,id)]) rav = rav) : Loc P c o st ⟨rav,[(id,none)],[id],rng k 16⟩:=by
 intro st2 hs hri hnew ops rest K h
 have he : ∀ {x : Operand},x∈o.op.operands.toList→ev st2 x = ev st x:=fun hx=>eh hs hx
 rw [ho] at he
 have hl2 : look st2.sto id = some (.row kk b xs):=(hri id List.mem_cons_self).trans hl
 have ha2 : evL st2 args.toList = some (cJ (rn k [(1000000,id)]) [AV.one (.own 1000000 m)]):=by
  rw [hrn,← ha]
  refine i4 fun x hx=>he (by simp [Op.operands,Call.operands]; exact .inr (by simpa using hx))
 have hf2 : ev st2 fop = some (.one (.d (.fn f caps))):=(he (x:=fop) (by simp [Op.operands,Call.operands])).trans hf
 refine kA (o:={ o with guard:=none }) k [(1000000,id)] ho rfl hd hf2 ha2 hC ⟨⟨id,by simp [look],hl2⟩,trivial⟩ ⟨fun i e h1 h2=>?_,trivial⟩ hk (fun i h3 h4=>?_) ?_
 ·simp [look] at h1; subst h1
  rw [hl2] at h2; cases h2
  exact ⟨rfl,rfl,Nat.le_of_eq hys⟩
 ·exact hnew i (rng_mem.2 ⟨h3,h4⟩)
 ·rw [hrv]
  refine dU (fun a w σ φ hr=>⟨σ,φ,hr.dropTo fun i e hi=>?_⟩) h
  have hi : look (del id st2.sto) i = some e:=hi
  obtain ⟨hne,hi2⟩:=df hi
  have hr0 : rn k [(1000000,id)] 1000000 = id:=by simpa [cJ,dr,gJ] using hrn
  show look (bH (rn k [(1000000,id)] 1000000) _ (del id st2.sto)) i = some e
  rw [hr0]
  have e7 : Nat.beq id i = false:=by
   cases h7 : Nat.beq id i with
   | false=>rfl
   | true=>exact absurd (Nat.eq_of_beq_eq_true h7).symm hne
  simp only [ci,look,e7,cond_false]
  exact hi
theorem Ib{P : Program}{c : Ctx}{fr : List (Nat×AV)}{sto : Sto}{ops : Array Oper}{o : Oper}{rest : List Oper}{K : St→Prop}{st0 : St}{acc : List Tr}{d : Nat}{fop : Operand}{args : Array Operand}{ats : Array TypeId}{f : FuncId}{caps : List D}{rav : AV}(k : Nat){id m kk b : Nat}{xs ys : List (List D)}
  (ho : o.op = .call { callee:=.value fop,args:=args,argTypes:=ats }) (hg : o.guard = none) (hdst : o.dst = some d) (hd : Nat.blt d c.n = true) (hl : look sto id = some (.row kk b xs)) (hf : ev ⟨fr,sto⟩ fop = some (.one (.d (.fn f caps))))
  (ha : evL ⟨fr,sto⟩ args.toList = some [.one (.own id m)]) (hC : CallA P f ([.one (.own 1000000 m)] ++ caps.map fun x=>.one (.d x)) [(1000000,.row kk b xs)] rav [(1000000,.row kk b ys)]) (hys : xs.length = ys.length)
  (hk : (fb [(1000000,id)] && iC [(1000000,id)] && fU [(1000000,AObj.row kk b xs)] [(1000000,id)] && fB [(1000000,id)] && cw [(1000000,id)] [(1000000,AObj.row kk b ys)] && da [(1000000,AObj.row kk b xs)] ([AV.one (.own 1000000 m)] ++ caps.map fun x=>.one (.d x)) && bd [(1000000,AObj.row kk b xs)] [(1000000,AObj.row kk b xs)] && cX [(1000000,AObj.row kk b ys)] rav && bd [(1000000,AObj.row kk b ys)] [(1000000,AObj.row kk b ys)] && Nat.ble (k + 16) 1000000) = true)
  (hrn : cJ (rn k [(1000000,id)]) [AV.one (.own 1000000 m)] = [.one (.own id m)]) (hrv : dr (rn k [(1000000,id)]) rav = rav)
  (h : ao P c ops st0 rest ⟨(d,rav)::fr,del id sto⟩ (⟨rav,[(id,none)],[id],rng k 16⟩::acc) K) : ao P c ops st0 (o::rest) ⟨fr,sto⟩ acc K:=by
 refine mz hg (ED k (b':=0) ho (by rw [hdst]; exact hd) hl hf ha hC hys hk hrn hrv) ?_
 rw [hdst]; exact h
end Go.Abs
namespace Go.Abs
open Go Go.Shelf Go.Proofs
variable {P : Program}
theorem BC {f : FuncId} {x : Int} {k : IntKind} {y : D} {yv : Value} (hfn : ∃ fn, P.funcs[f]? = some fn ∧ (fn.name == "runtime.NumGoroutine") = false ∧ fn.body.isSome = true)
  (hC : ∀ w,Calls P f #[.int k x] w fun e w'=>e = .returned yv∧w' = w) (hy : ∀ σ,Rep σ y yv) : CallA P f [.one (.d (.int k x))] [] (.one (.d y)) []:=by
 refine ⟨hfn,fun w σ φ vs hI hA=>?_⟩
 match vs,hA with
 | [v0],hA =>
   obtain ⟨hv0,_⟩:=hA
   have hv0 : RepC σ φ _ (.d (.int k x)) v0:=hv0
   replace hv0:=hv0.d_inv
   cases hv0
   refine (hC w).mono ?_
   rintro e w' ⟨rfl,rfl⟩
   exact ⟨_,σ,φ,rfl,Sig.le_refl _,fun b hb=>.inl hb,hI,.d (hy σ),fun i e p h1 h2=>(nomatch h1),fun _ _=>rfl,⟨rfl,rfl,rfl,Nat.le_refl _,Nat.le_refl _,fun _ _ _=>rfl⟩⟩
end Go.Abs
namespace Go.Proofs.YtpejdgkaapnekaaGreat
open Go Go.Proofs Go.Shelf Go.Abs
def Fw : Go.Shelf.Ren:=⟨fun | 133=>372 | 128=>261 | n=>n,fun | 51=>251 | 3=>3 | 4=>4 | 46=>192 | 5=>5 | 9=>9 | n=>n,fun | n=>n⟩
theorem MR : Go.Proofs.Lays.n133 Tryz.prog Fw:={
 mixed:=by kernel_rfl
 f128:=Tryz.func261.trans (congrArg some (by kernel_rfl))
 f133:=Tryz.func372.trans (congrArg some (by kernel_rfl))
 t3:=Tryz.underlying3
 a3:=Tryz.isAgg3
 z3:=Tryz.sizeOf3
 v3:=Tryz.zeroValue3
 t4:=Tryz.underlying4
 a4:=Tryz.isAgg4
 z4:=Tryz.sizeOf4
 v4:=Tryz.zeroValue4
 t5:=Tryz.underlying5
 a5:=Tryz.isAgg5
 z5:=Tryz.sizeOf5
 v5:=Tryz.zeroValue5
 t9:=Tryz.underlying9
 a9:=Tryz.isAgg9
 z9:=Tryz.sizeOf9
 v9:=Tryz.zeroValue9
 t46:=Tryz.underlying192
 a46:=Tryz.isAgg192
 z46:=Tryz.sizeOf192
 v46:=Tryz.zeroValue192
 t51:=Tryz.underlying251
 a51:=Tryz.isAgg251
 z51:=Tryz.sizeOf251
 v51:=Tryz.zeroValue251 }
theorem MS(x : Nat)(hx : x < 4294967296) : CallA Tryz.prog 372 [.one (.d (.int .u32 x))] [] (.one (.d (.int .i64 (32 - (Lib.bitLen x : Int))))) []:=by
 refine BC (yv:=.int .i64 (32 - (Lib.bitLen x : Int))) ⟨Tryz.f372,Tryz.func372,by kernel_rfl,by kernel_rfl⟩ (fun w=>?_) (fun σ=>.int ?_)
 ·exact Any.bits_LeadingZeros32 MR (x : Int) w (by omega) (by omega)
 ·have h:=Any.bitLen_le32 (x : Int) (by omega) (by omega)
  rw [Int.toNat_natCast] at h
  simp only [inR,IntKind.min,IntKind.max,IntKind.signed,IntKind.bits,if_true]
  omega
end Go.Proofs.YtpejdgkaapnekaaGreat
namespace Go.Proofs.YtpejdgkaapnekaaGreat
open Go Go.Abs
attribute [local irreducible] ac OkC ao ax ap aJ
set_option maxRecDepth 10000
theorem K8(m n : Nat)(h : m < n) : CallA Tryz.prog 355 [.one (.d (bk m)),.one (.d (bk n))] [] (.tup [(false,[.d (bk (m / n))]),(false,[.d (bk (m % n))])]) []:=by
 have hc : decide (gU m n < 0) = true:=by rw [iu h]; rfl
 rw [Nat.div_eq_of_lt h,Nat.mod_eq_of_lt h,show bk 0 = .sl 1 4 [] by unfold bk cy; rw [fg]; rfl]
 refine enter ae Tryz.func355 rfl (by decide +kernel) rfl fun hok w0 σ0 φ0 M=>?_
 clear hok
 repeat' (first|(refine h1H ?_; (refine h0H ?_; refine aa J J J J J J J J (uu _ _) J ?_))|(refine h4H ?_; refine bu (j6 (s:=4) (k:=1) (b:=4) J) (cv ?_))|refine wG ?_)
 all_goals rfl
theorem Ap{m n : Nat}(h : n≤m) : decide (gU m n < 0) = false:=by
 rcases Nat.lt_or_ge n m with h2 | h2
 ·rw [iv h2]; rfl
 ·rw [kc (by omega)]; rfl
theorem Ny{n : Nat}(h : (dig n).length = 1) : at_ (dig n) 0 = (n : Int)∧0 < n∧n < 4294967296:=by
 obtain ⟨h1,h2,h3⟩:=cm n
 match hd : dig n,h with
 | [d],_ =>
   rw [hd] at h1 h2 h3
   simp only [af] at h2
   have h4:=h1 d List.mem_cons_self
   have h5 : d≠0:=by
    rcases h3 with h3 | h3
    ·cases h3
    ·exact h3
   show d = _∧_
   omega
theorem K9(m n : Nat)(d : Int)(hd : d = (n : Int))(hm : (dig m).length≤400)(hn : 0 < n∧n < 4294967296) : CallA Tryz.prog 371 [.one (.d (bk m)),.one (.d (.int .u32 d))] [] (.tup [(false,[.d (bk (m / n))]),(false,[.d (.int .u32 (m % n : Nat))])]) []:=by
 subst hd; exact Nz m n hm hn
theorem La(m n : Nat)(h : n≤m)(hl : (dig n).length = 1)(hm : (dig m).length≤400) : CallA Tryz.prog 355 [.one (.d (bk m)),.one (.d (bk n))] [] (.tup [(false,[.d (bk (m / n))]),(false,[.d (bk (m % n))])]) []:=by
 have hc:=Ap h
 obtain ⟨e1,en⟩:=Ny hl
 have hlr : ((dig n).map ak).length = 1:=by simpa using hl
 have hb : ((((dig n).map ak).length : Int) == 1) = true:=by rw [hlr]; rfl
 have hmod : m % n < 4294967296:=Nat.lt_trans (Nat.mod_lt _ en.1) en.2
 refine enter ae Tryz.func355 rfl (by decide +kernel) rfl fun hok w0 σ0 φ0 M=>?_
 clear hok
 repeat' (first|(refine h1H ?_; (refine h0H ?_; first|refine aa J J J J J J J J (uu _ _) J ?_|refine aw 16 J J J J J J J J (K9 _ n _ e1 hm en) J J J ?_|refine aw 16 J J J J J J J J (Jj _ (by omega)) J J J ?_))|refine wG ?_)
 all_goals rfl
theorem Lb(v : Int)(s : Nat)(hv : 0≤v∧v < 4294967296)(hs : 32 - (Lib.bitLen v.toNat : Int) = (s : Int)) : CallA Tryz.prog 372 [.one (.d (.int .u32 v))] [] (.one (.d (.int .i64 (s : Int)))) []:=by
 obtain ⟨x,rfl⟩:=Int.eq_ofNat_of_zero_le hv.1
 have:=MS x (by omega)
 rw [Int.toNat_natCast] at hs
 rwa [hs] at this
theorem Jk(m s : Nat)(hm : (dig m).length≤400)(hs : s≤31) : CallA Tryz.prog 373 [.one (.d (bk m)),.one (.d (.int .i64 s))] [] (.one (.own 10 ((dig m).length + 1))) [(10,.row 1 4 ((wid ((dig m).length + 1) (m * 2 ^ s)).map ak))]:=by
 obtain ⟨a1,a2,a3⟩:=cm m
 have:=KW (dig m) s a1 hm hs
 rwa [a2,show ((m : Int) * 2 ^ s).toNat = m * 2 ^ s by
  rw [show ((m : Int) * 2 ^ s) = ((m * 2 ^ s : Nat) : Int) by simp]; rfl] at this
theorem Lc(w a : Nat)(h : a < bp w) : CallA Tryz.prog 374 [.one (.d (cy (wid w a)))] [] (.one (.d (bk a))) []:=by
 have:=Jl (wid w a) (iP w a)
 rwa [ke w a h] at this
theorem Ld(W a n : Nat)(hn : n≤W)(hW : W≤1000)(ha : a < bp n) : CallA Tryz.prog 374 [.one (.own 1000000 n)] [(1000000,.row 1 4 ((wid W a).map ak))] (.one (.own 1000000 (dig a).length)) [(1000000,.row 1 4 ((wid W a).map ak))]:=by
 have hw:=ke W a (Nat.lt_of_lt_of_le ha (ji hn))
 have:=KX (wid W a) n (by rw [eN]; exact hn) (iP W a) (by rw [eN]; exact hW)
 rwa [xW (lq (iP W a) (by rw [hw,pwc]; omega)),hw] at this
theorem Jm{st : St}{ρ : List (Nat×Nat)}{j i0 : Nat}{o0 o : AObj}(h0 : Abs.look ρ j = some i0)(h1 : Abs.look st.sto i0 = some o0)(hc : compat o0 o) : ∀ i e,Abs.look ρ j = some i→Abs.look st.sto i = some e→compat e o:=fun i e h2 h3=>by
 rw [h0] at h2; cases h2
 rw [h1] at h3; cases h3
 exact hc
theorem Le{u v un : Nat}{j : Int}(h0 : decide (0≤j) = true)(hv : 0 < v)(hun : un = u % (bp (j + 1).toNat * v)) : un < bp (j.toNat + 1) * v:=by
 have h0:=of_decide_eq_true h0
 rw [hun,show (j + 1).toNat = j.toNat + 1 by omega]
 exact Nat.mod_lt _ (Nat.mul_pos (DU _) hv)
theorem HK{v u un : Nat}{j : Int}{Q : List Int}{R : List (List D)}{N : Nat}(hv : 0 < v)(h0 : decide (0≤j) = true)(hj : j < (N : Int))(hr : R = Q.map ak)(hl : R.length = N)(hQ : Dg Q)(hun : un = u % (bp (j + 1).toNat * v))(hq : af (Q.drop (j + 1).toNat) = ((u / (bp (j + 1).toNat * v) : Nat) : Int)) :
  -1≤j - 1∧j - 1 < (N : Int)∧R.set j.toNat [.int .u32 ((un / (bp j.toNat * v) : Nat) : Int)] = (Q.set j.toNat ((un / (bp j.toNat * v) : Nat) : Int)).map ak∧(R.set j.toNat [.int .u32 ((un / (bp j.toNat * v) : Nat) : Int)]).length = N∧Dg (Q.set j.toNat ((un / (bp j.toNat * v) : Nat) : Int))∧un % (bp j.toNat * v) = u % (bp (j - 1 + 1).toNat * v) ∧
  af ((Q.set j.toNat ((un / (bp j.toNat * v) : Nat) : Int)).drop (j - 1 + 1).toNat) = ((u / (bp (j - 1 + 1).toNat * v) : Nat) : Int):=by
 have h0:=of_decide_eq_true h0
 obtain ⟨i,rfl⟩:=Int.eq_ofNat_of_zero_le h0
 rw [show ((i : Int) + 1).toNat = i + 1 by omega] at hun hq
 rw [show ((i : Int) - 1 + 1).toNat = i by omega,Int.toNat_natCast]
 exact ⟨by omega,by omega,FI (W:=0) hv (by omega) hr hl hQ hun hq⟩
theorem nF{m n s un : Nat}{j : Int}{Q : List Int}(h0 : decide (0≤j) = false)(h1 : -1≤j)(hun : un = (m * 2 ^ s) % (bp (j + 1).toNat * (n * 2 ^ s)))(hq : af (Q.drop (j + 1).toNat) = (((m * 2 ^ s) / (bp (j + 1).toNat * (n * 2 ^ s)) : Nat) : Int)) : (af Q).toNat = m / n∧un = m % n * 2 ^ s:=by
 have h0:=of_decide_eq_false h0
 rw [show (j + 1).toNat = 0 by omega,uv,Nat.one_mul] at hun hq
 rw [List.drop_zero,Nat.mul_div_mul_right _ _ (Nat.two_pow_pos s)] at hq
 rw [Nat.mul_mod_mul_right] at hun
 exact ⟨by rw [hq]; rfl,hun⟩
theorem wV{m n s un k : Nat}(hn : 0 < n)(h : un = m % n * 2 ^ s)(hv : n * 2 ^ s < bp (k + 2)) : un < bp (k + 2):=by
 have : m % n * 2 ^ s < n * 2 ^ s:=Nat.mul_lt_mul_of_pos_right (Nat.mod_lt _ hn) (Nat.two_pow_pos s)
 omega
theorem G3{a w : Nat}(h : a < bp w) : (dig a).length≤w:=by
 refine Nat.le_of_not_lt fun hc=>?_
 obtain ⟨k,hk⟩ : ∃ k,(dig a).length = k + 1:=⟨(dig a).length - 1,by omega⟩
 obtain ⟨g1,g2,_⟩:=tk hk
 have h3:=ji (show w≤k by omega)
 have h4:=(cm a).1.at (i:=k) (by omega)
 have h5 : (1 : Int) * (bp k : Int)≤at_ (dig a) k * (bp k : Int):=Int.mul_le_mul_of_nonneg_right (by omega) (by omega)
 omega
theorem Jn{Q : List Int}{R : List (List D)}{s W i r a : Nat}(ha : a = r * 2 ^ s)(hs : s≤31)(haW : a < bp W)(hi : i≤(dig a).length)(h0 : decide ((i : Int) < ((dig a).length : Int)) = false)(hiW : (dig a).length≤W)(h : RsI (wid W a) s W i Q R) : R.take (dig a).length = (Q.take (dig a).length).map ak∧Dg (Q.take (dig a).length)∧(af (Q.take (dig a).length)).toNat = r:=by
 have e : i = (dig a).length:=by have:=of_decide_eq_false h0; omega
 rw [← e]
 exact Jo ha hs haW e (by omega) h
set_option maxHeartbeats 2000000 in
theorem Lf(m n k : Nat)(h : n≤m)(hl : (dig n).length = k + 2)(hm : (dig m).length≤400)(hn0 : 0 < n) : CallA Tryz.prog 355 [.one (.d (bk m)),.one (.d (bk n))] [] (.tup [(false,[.d (bk (m / n))]),(false,[.d (bk (m % n))])]) []:=by
 have hc:=Ap h
 have hnm : (dig n).length≤(dig m).length:=jj h
 obtain ⟨s,hs,hs0,hs1,hvb⟩:=FJ hl
 obtain ⟨hvl,hvt⟩:=FK hs1 hvb
 obtain ⟨hu1,hu2⟩:=HL (m:=m) (k:=k) hs hs1 (by omega)
 have hv0 : 0 < n * 2 ^ s:=Nat.mul_pos hn0 (Nat.two_pow_pos s)
 have hlr : ((dig n).map ak).length = k + 2:=by simpa using hl
 have hvr : ((dig (n * 2 ^ s)).map ak).length = k + 2:=by simpa using hvl
 have hvN : (((dig (n * 2 ^ s)).map ak).length : Int).toNat = k + 2:=by rw [hvr]; rfl
 have hb : ((((dig n).map ak).length : Int) == 1) = false:=by rw [hlr]; exact beq_false_of_ne (by omega)
 have ei : ((((dig n).map ak).length : Int) - 1).toNat = k + 1:=by rw [hlr]; omega
 have hd5 : 0≤at_ (dig n) ((((dig n).map ak).length : Int) - 1).toNat∧at_ (dig n) ((((dig n).map ak).length : Int) - 1).toNat < 4294967296:=by rw [ei]; exact (cm n).1.at (by omega)
 have hs5 : 32 - (Lib.bitLen (at_ (dig n) ((((dig n).map ak).length : Int) - 1).toNat).toNat : Int) = (s : Int):=by rw [ei]; exact hs0
 have hv5 : n * 2 ^ s < bp ((dig n).length + 1):=Nat.lt_of_lt_of_le hvb (ji (by omega))
 have hfin : ∀ (q : Nat×List Int×List (List D)) (p : Int×Nat×List Int×List (List D)),decide ((q.1 : Int) < ((dig p.2.1).length : Int)) = false→decide (0≤p.1) = false→-1≤p.1→p.2.1 = (m * 2 ^ s) % (bp (p.1 + 1).toNat * (n * 2 ^ s))→af (p.2.2.1.drop (p.1 + 1).toNat) = (((m * 2 ^ s) / (bp (p.1 + 1).toNat * (n * 2 ^ s)) : Nat) : Int)→q.1≤(dig p.2.1).length→(dig p.2.1).length≤(dig m).length + 1→RsI (wid ((dig m).length + 1) p.2.1) s ((dig m).length + 1) q.1 q.2.1 q.2.2 →
   q.2.2.take (dig p.2.1).length = (q.2.1.take (dig p.2.1).length).map ak∧Dg (q.2.1.take (dig p.2.1).length)∧(af (q.2.1.take (dig p.2.1).length)).toNat = m % n :=
  fun q p h1 h2 h3 h4 h5 h6 h7 h8=>Jn (nF h2 h3 h4 h5).2 hs (Nat.lt_of_lt_of_le (wV hn0 (nF h2 h3 h4 h5).2 hvb) (ji (by omega))) h6 h1 h7 h8
 refine enter ae Tryz.func355 rfl (by decide +kernel) rfl fun hok w0 σ0 φ0 M=>?_
 clear hok
 repeat' (first|(refine h1H ?_; (refine h0H ?_; first|refine aw 60 J J J J J J J J (MW n s (by omega) hs) J J J ?_|refine aw 60 J J J J J J J J (Lc _ _ hv5) J J J ?_))|(refine h1H ?_; (refine h7H ?_; refine fi aq 10 J J J (ca (n:=(dig m).length + 1 - (k + 2)) J J J J J (by omega) (by omega) (by omega) (Nat.le_of_ble_eq_true J)) J J ?_))|(refine h1H ?_; (refine h0H ?_; refine jU 10 [] (rav':=.one (.own 20 ((dig m).length + 1))) (Jk m s hm hs) J J J J J J trivial kD J J J J ?_))|(refine h1H ?_; (refine NA ?_; refine FL aq (lo:=p.1.toNat) (n:=(dig (n * 2 ^ s)).length + 1) J J J J J J J J J J wB wB wB (by simp [eN]) ?_))|(refine h1H ?_; (refine h0H ?_; refine jU 40 [(1000000,20)] (rav':=.one (.d (.int .u32 ((p.2.1 / (bp p.1.toNat * (n * 2 ^ s)) : Nat) : Int)))) (Lg (n * 2 ^ s) k p.1.toNat ((dig m).length + 1) p.2.1 hvl hvt (by omega) (by omega) (by omega) (Le h hv0 hun)) J J J J J J ⟨⟨20,rfl,rfl⟩,trivial⟩ ⟨Jm (i0:=20) J J ⟨rfl,rfl,by simp [eN]⟩,trivial⟩ J J J J ?_))|(refine h1H ?_; (refine NB ?_; refine s_e aq J J J (eM J J J J J J (by omega) (by omega) (by simp [eN])) ?_))|(refine h1H ?_; (refine h0H ?_; first|refine jU 40 [(1000000,20)] (rav':=.one (.own 20 (dig p.2.1).length)) (Ld ((dig m).length + 1) p.2.1 (((dig (n * 2 ^ s)).map ak).length : Int).toNat (by omega) (by omega) (by rw [hvN]; exact wV hn0 (nF h hk1 hun hq).2 hvb)) J J J J J J ⟨⟨20,rfl,rfl⟩,trivial⟩ ⟨Jm (i0:=20) J J ⟨rfl,rfl,Nat.le_refl _⟩,trivial⟩ J J J J ?_|refine cS 60 [10] J J J J J J J J J (mG _ p.2.2.1 (m / n) (uw hr hl2) hL (nF ‹decide (0≤p.1) = false› hk1 hun hq).1) J J J ?_|refine cS 80 [20] J J J J J J J J J (mG _ _ (m % n) (hfin q p h ‹decide (0≤p.1) = false› hk1 hun hq hq1 hLW ⟨hR1,hR2,hR3,hR4,hR5⟩).1 (hfin q p h ‹decide (0≤p.1) = false› hk1 hun hq hq1 hLW ⟨hR1,hR2,hR3,hR4,hR5⟩).2.1 (hfin q p h ‹decide (0≤p.1) = false› hk1 hun hq hq1 hLW ⟨hR1,hR2,hR3,hR4,hR5⟩).2.2) J J J ?_|refine aa J J J J J J J J (uu _ _) J ?_|refine aa J J J J J J J J (Lb _ s hd5 hs5) J ?_))|(refine h3H ?_; (refine NC ?_; refine d_e aq J J J (DV J J J (by omega)) ?_))|(refine h3H ?_; (refine ND ?_; refine d_e aq J J J (db J J J J (dJ (ej hR1) (by simp only [List.length_set]; have:=of_decide_eq_true h; omega)) J) ?_))|refine wG ?_|(refine h4H ?_; first|refine ag J (fun h=>?_) (fun h=>?_)|refine b0 16 J [(8,_),(12,_),(14,_),(83,_)] (q4Q J J J J) (fun (q : Nat×List Int×List (List D))=>[(84,.one (.d (.int .i64 (q.1 : Int))))]) (fun (q : Nat×List Int×List (List D))=>[(20,.row 1 4 q.2.2),(10,.row 1 4 p.2.2.2)]) (fun (q : Nat×List Int×List (List D))=>q.1≤(dig p.2.1).length∧(dig p.2.1).length≤(dig m).length + 1∧RsI (wid ((dig m).length + 1) p.2.1) s ((dig m).length + 1) q.1 q.2.1 q.2.2) (fun (q : Nat×List Int×List (List D))=>(dig p.2.1).length - q.1) (0,wid ((dig m).length + 1) p.2.1,(wid ((dig m).length + 1) p.2.1).map ak) (q1Q J) wK ?_ (fun q ⟨hq1,hLW,hR1,hR2,hR3,hR4,hR5⟩=>?_)|refine b0 11 J [(8,_),(9,_),(10,_),(11,_),(12,_)] (q5Q J J J J J) (fun (p : Int×Nat×List Int×List (List D))=>[(13,.one (.d (.int .i64 p.1)))]) (fun (p : Int×Nat×List Int×List (List D))=>[(20,.row 1 4 ((wid ((dig m).length + 1) p.2.1).map ak)),(10,.row 1 4 p.2.2.2)]) (fun (p : Int×Nat×List Int×List (List D))=>-1≤p.1∧p.1 < (((dig m).length + 1 - (k + 2) : Nat) : Int)∧p.2.2.2 = p.2.2.1.map ak∧p.2.2.2.length = (dig m).length + 1 - (k + 2)∧Dg p.2.2.1∧p.2.1 = (m * 2 ^ s) % (bp (p.1 + 1).toNat * (n * 2 ^ s))∧af (p.2.2.1.drop (p.1 + 1).toNat) = (((m * 2 ^ s) / (bp (p.1 + 1).toNat * (n * 2 ^ s)) : Nat) : Int)) (fun (p : Int×Nat×List Int×List (List D))=>(p.1 + 1).toNat) ((((dig m).length + 1 : Nat) : Int) - (((dig (n * 2 ^ s)).map ak).length : Int) - 1,m * 2 ^ s,List.replicate ((dig m).length + 1 - (k + 2)) 0,List.replicate ((dig m).length + 1 - (k + 2)) [.int .u32 0]) (q1Q J) wK ?_ (fun p ⟨hk1,hk2,hr,hl2,hL,hun,hq⟩=>?_))|(show Exists _; first|refine Exists.intro (((p.1 - 1),p.2.1 % (bp p.1.toNat * (n * 2 ^ s)),p.2.2.1.set p.1.toNat ((p.2.1 / (bp p.1.toNat * (n * 2 ^ s)) : Nat) : Int),p.2.2.2.set p.1.toNat [.int .u32 ((p.2.1 / (bp p.1.toNat * (n * 2 ^ s)) : Nat) : Int)])) ⟨?_,?_,wK,(q1Q J),(q5Q J J J J J)⟩|refine Exists.intro ((q.1 + 1,(q.2.1.set q.1 (rsX (at_ q.2.1 q.1) s)).set q.1 (shO (at_ (q.2.1.set q.1 (rsX (at_ q.2.1 q.1) s)) q.1) (shV (at_ (q.2.1.set q.1 (rsX (at_ q.2.1 q.1) s)) (q.1 + 1)) (32 - (s : Int)))),(q.2.2.set q.1 [.int .u32 (rsX (at_ q.2.1 q.1) s)]).set q.1 [.int .u32 (shO (at_ (q.2.1.set q.1 (rsX (at_ q.2.1 q.1) s)) q.1) (shV (at_ (q.2.1.set q.1 (rsX (at_ q.2.1 q.1) s)) (q.1 + 1)) (32 - (s : Int))))])) ⟨?_,?_,wK,(q1Q J),(q4Q J J J J)⟩|refine Exists.intro ((q.1 + 1,q.2.1.set q.1 (rsX (at_ q.2.1 q.1) s),q.2.2.set q.1 [.int .u32 (rsX (at_ q.2.1 q.1) s)])) ⟨?_,?_,wK,(q1Q J),(q4Q J J J J)⟩))
 ·show -1≤(((dig m).length + 1 : Nat) : Int) - (((dig (n * 2 ^ s)).map ak).length : Int) - 1∧(((dig m).length + 1 : Nat) : Int) - (((dig (n * 2 ^ s)).map ak).length : Int) - 1 < _∧_∧_∧_∧m * 2 ^ s = _ % (bp ((((dig m).length + 1 : Nat) : Int) - (((dig (n * 2 ^ s)).map ak).length : Int) - 1 + 1).toNat * _)∧af ((List.replicate _ (0 : Int)).drop ((((dig m).length + 1 : Nat) : Int) - (((dig (n * 2 ^ s)).map ak).length : Int) - 1 + 1).toNat) = ((_ / (bp ((((dig m).length + 1 : Nat) : Int) - (((dig (n * 2 ^ s)).map ak).length : Int) - 1 + 1).toNat * _) : Nat) : Int)
  rw [hvr,show ((((dig m).length + 1 : Nat) : Int) - ((k + 2 : Nat) : Int) - 1 + 1).toNat = (dig m).length + 1 - (k + 2) by omega]
  refine ⟨by omega,by omega,by simp [ak],by simp,Dg.zeros _,(Nat.mod_eq_of_lt hu1).symm,?_⟩
  rw [Nat.div_eq_of_lt hu1,List.drop_eq_nil_of_le (by simp)]; rfl
 ·exact HK hv0 h hk2 hr hl2 hL hun hq
 ·have h0:=of_decide_eq_true h
  show (p.1 - 1 + 1).toNat < (p.1 + 1).toNat
  omega
 ·have hun2:=(nF h hk1 hun hq).2
  have hul:=G3 (wV hn0 hun2 hvb)
  exact ⟨Nat.zero_le _,by omega,rfl,by simp [eN],iP _ _,fun t _=>rfl,by
   show af ((wid ((dig m).length + 1) p.2.1).take 0) * 2 ^ s = af ((wid ((dig m).length + 1) p.2.1).take 0) - _ + pw 0 * _
   rw [List.take_zero,lK]; simp only [af]; rw [Int.zero_mul]; omega⟩
 ·have hlt:=of_decide_eq_true h
  exact ⟨by show q.1 + 1≤_; omega,hLW,FM hs (eN _ _) (by omega) (iP _ _) ⟨hR1,hR2,hR3,hR4,hR5⟩⟩
 ·have hlt:=of_decide_eq_true h
  show (dig p.2.1).length - (q.1 + 1) < (dig p.2.1).length - q.1
  omega
 ·have hlt:=of_decide_eq_true ‹decide ((q.1 : Int) < ((dig p.2.1).length : Int)) = true›
  have hge:=of_decide_eq_false h
  have hun2:=(nF ‹decide (0≤p.1) = false› hk1 hun hq).2
  have hul:=Nat.lt_of_lt_of_le (wV hn0 hun2 hvb) (ji (show k + 2≤(dig m).length + 1 by omega))
  have hz:=lq (k:=(dig p.2.1).length) (iP ((dig m).length + 1) p.2.1) (by rw [ke _ _ hul,pwc]; have:=nG p.2.1; omega) (q.1 + 1) (by omega)
  exact ⟨by show q.1 + 1≤_; omega,hLW,FN hs (eN _ _) (by omega) (iP _ _) hz ⟨hR1,hR2,hR3,hR4,hR5⟩⟩
 ·have hlt:=of_decide_eq_true ‹decide ((q.1 : Int) < ((dig p.2.1).length : Int)) = true›
  show (dig p.2.1).length - (q.1 + 1) < (dig p.2.1).length - q.1
  omega
 ·rfl
theorem up : l7:=fun m n hn hm hd=>by
 unfold dl at hm hd
 rcases Nat.lt_or_ge m n with h | h
 ·exact K8 m n h
 ·have hne : (dig n).length≠0:=fun e=>by
   have:=nG n
   rw [e,uv] at this; omega
  by_cases h1 : (dig n).length = 1
  ·exact La m n h h1 (by omega)
  ·exact Lf m n ((dig n).length - 2) h (by omega) (by omega) (by omega)
structure RatOk (a1 b1 a2 b2 : Nat) : Prop where
 h1 : b1≠0
 h2 : b2≠0
 l1 : (dig a1).length≤400
 l2 : (dig b1).length≤400
 l3 : (dig a2).length≤400
 l4 : (dig b2).length≤400
 m1 : dl (a1 * b2)≤100
 m2 : dl (a2 * b1)≤100
 m3 : dl (b1 * b2)≤100
 m4 : dl (a1 * b2 + a2 * b1)≤100
 m5 : dl (a1 * a2)≤100
 m6 : dl (b1 * a2)≤100
theorem RatOk.add(hD : l7){a1 b1 a2 b2 : Nat}(h : RatOk a1 b1 a2 b2)(s1 s2 minus : Bool) : CallA Tryz.prog 359 [.one (.d (cg s1 a1 b1)),.one (.d (cg s2 a2 b2)),.one (.d (.bool minus))] [] (.one (.d (oI s1 a1 b1 s2 a2 b2 minus))) [] :=
 Og hD s1 a1 b1 s2 a2 b2 minus h.h1 h.h2 h.l1 h.l2 h.l3 h.l4 (Nat.le_trans h.m1 (by omega)) (Nat.le_trans h.m2 (by omega)) h.m3 h.m4 (Nat.le_trans (jj (Nat.sub_le _ _)) h.m1) (Nat.le_trans (jj (Nat.sub_le _ _)) h.m2)
theorem Oh(hD : l7)(s1 : Bool)(a1 b1 : Nat)(s2 : Bool)(a2 b2 : Nat)(hR : RatOk a1 b1 a2 b2) : CallA Tryz.prog 321 [.one (.d (cg s1 a1 b1)),.one (.d (cg s2 a2 b2))] [] (.one (.d (oI s1 a1 b1 s2 a2 b2 false))) []:=by
 refine enter ae Tryz.func321 rfl (by decide +kernel) rfl fun hok w0 σ0 φ0 M=>?_
 clear hok
 repeat' (first|(refine h1H ?_; (refine h0H ?_; refine aw 16 J J J J J J J J (hR.add hD _ _ _) J J J ?_))|refine wG ?_)
 all_goals rfl
theorem JM(hD : l7)(s1 : Bool)(a1 b1 : Nat)(s2 : Bool)(a2 b2 : Nat)(hR : RatOk a1 b1 a2 b2) : CallA Tryz.prog 322 [.one (.d (cg s1 a1 b1)),.one (.d (cg s2 a2 b2))] [] (.one (.d (oI s1 a1 b1 s2 a2 b2 true))) []:=by
 refine enter ae Tryz.func322 rfl (by decide +kernel) rfl fun hok w0 σ0 φ0 M=>?_
 clear hok
 repeat' (first|(refine h1H ?_; (refine h0H ?_; refine aw 16 J J J J J J J J (hR.add hD _ _ _) J J J ?_))|refine wG ?_)
 all_goals rfl
set_option maxHeartbeats 1000000 in
theorem Oi(hD : l7)(s1 : Bool)(a1 b1 : Nat)(s2 : Bool)(a2 b2 : Nat)(hR : RatOk a1 b1 a2 b2) : CallA Tryz.prog 323 [.one (.d (cg s1 a1 b1)),.one (.d (cg s2 a2 b2))] [] (.one (.d (yu (s1 != s2) (a1 * a2) (b1 * b2)))) []:=by
 obtain ⟨h1,h2,l1,l2,l3,l4,m1,m2,m3,m4,m5,m6⟩:=hR
 have hb12 : b1 * b2≠0:=Nat.mul_ne_zero h1 h2
 have v1 : decide (b1≠0) = true:=by simp [h1]
 have v2 : decide (b2≠0) = true:=by simp [h2]
 refine enter ae Tryz.func323 rfl (by decide +kernel) rfl fun hok w0 σ0 φ0 M=>?_
 clear hok
 repeat' (first|(refine h1H ?_; (refine h0H ?_; refine aa J J J J J J J J (oJ _ _ _) J ?_))|(refine h3H ?_; (refine h2H ?_; first|refine bh 16 J J J J J J J J (yw _ _ l1 l3) J J ?_|refine bh 16 J J J J J J J J (yw _ _ l2 l4) J J ?_|refine bh 16 J J J J J J J J (BZ hD _ _ _ m5 m3 hb12) J J ?_))|refine wG ?_|(refine h1H ?_; (refine h5H ?_; refine aG J J J J (fun h=>?_) (fun h=>?_)))|(refine h4H ?_; refine ag J (fun h=>?_) (fun h=>?_)))
 all_goals first
  | rfl
  | (exfalso; simp_all; done)
  | skip
set_option maxHeartbeats 1000000 in
theorem Oj(hD : l7)(s1 : Bool)(a1 b1 : Nat)(s2 : Bool)(a2 b2 : Nat)(hR : RatOk a1 b1 a2 b2)(h0 : a2≠0) : CallA Tryz.prog 362 [.one (.d (cg s1 a1 b1)),.one (.d (cg s2 a2 b2))] [] (.tup [(false,[.d (yu (s1 != s2) (a1 * b2) (b1 * a2))]),(false,[.d (.int .i64 0)])]) []:=by
 obtain ⟨h1,h2,l1,l2,l3,l4,m1,m2,m3,m4,m5,m6⟩:=hR
 have hb12 : b1 * a2≠0:=Nat.mul_ne_zero h1 h0
 have v1 : decide (b1≠0) = true:=by simp [h1]
 have v2 : decide (b2≠0) = true:=by simp [h2]
 have v3 : ((((dig a2).map ak).length : Int) == 0) = false:=by rw [pL]; simp [h0]
 refine enter ae Tryz.func362 rfl (by decide +kernel) rfl fun hok w0 σ0 φ0 M=>?_
 clear hok
 repeat' (first|(refine h1H ?_; (refine h0H ?_; refine aa J J J J J J J J (oJ _ _ _) J ?_))|(refine h3H ?_; (refine h2H ?_; first|refine bh 16 J J J J J J J J (yw _ _ l1 l4) J J ?_|refine bh 16 J J J J J J J J (yw _ _ l2 l3) J J ?_|refine bh 16 J J J J J J J J (BZ hD _ _ _ m1 m6 hb12) J J ?_))|refine wG ?_|(refine h1H ?_; (refine h5H ?_; refine aG J J J J (fun h=>?_) (fun h=>?_)))|(refine h4H ?_; refine ag J (fun h=>?_) (fun h=>?_)))
 all_goals first
  | rfl
  | (exfalso; simp_all; done)
  | skip
set_option maxHeartbeats 1000000 in
theorem Lu(s1 : Bool)(a1 b1 : Nat)(s2 : Bool)(b2 : Nat)(h1 : b1≠0)(h2 : b2≠0) : CallA Tryz.prog 362 [.one (.d (cg s1 a1 b1)),.one (.d (cg s2 0 b2))] [] (.tup [(false,[.d (.raw (.pointer none))]),(false,[.d (.int .i64 2)])]) []:=by
 have v1 : decide (b1≠0) = true:=by simp [h1]
 have v2 : decide (b2≠0) = true:=by simp [h2]
 have v3 : ((((dig 0).map ak).length : Int) == 0) = true:=by rw [pL]; simp
 refine enter ae Tryz.func362 rfl (by decide +kernel) rfl fun hok w0 σ0 φ0 M=>?_
 clear hok
 repeat' (first|(refine h1H ?_; (refine h0H ?_; refine aa J J J J J J J J (oJ _ _ _) J ?_))|refine wG ?_|(refine h1H ?_; (refine h5H ?_; refine aG J J J J (fun h=>?_) (fun h=>?_)))|(refine h4H ?_; refine ag J (fun h=>?_) (fun h=>?_)))
 all_goals first
  | rfl
  | (exfalso; simp_all; done)
  | skip
def hU(n : Nat) : Int×Bool:=if n≤1099511627776 then (n,true) else (0,false)
theorem B3(n : Nat) : CallA Tryz.prog 352 [.one (.d (bk n))] [] (.tup [(false,[.d (.int .i64 (hU n).1)]),(false,[.d (.bool (hU n).2)])]) []:=by
 unfold hU
 by_cases h : n≤1099511627776
 ·rw [if_pos h]; exact Lx n h
 ·rw [if_neg h]; exact Ly n h
def B4(k num den : Int) : AV:=.agg [.d (.int .i64 k),.d (.int .i64 num),.d (.int .i64 den),.d (.str [])]
theorem Gf(r : Int) : CallA Tryz.prog 353 [.one (.d (.int .i64 r))] [] (B4 0 r 0) []:=by
 refine enter ae Tryz.func353 rfl (by decide +kernel) rfl fun hok w0 σ0 φ0 M=>?_
 clear hok
 repeat' (first|refine wG ?_)
 all_goals rfl
def B5(neg : Bool)(a b : Nat) : AV:=if a≤1099511627776∧b≤1099511627776 then B4 2 (if neg = true then -(a : Int) else a) b else B4 0 2 0
theorem Ov(neg : Bool)(a b : Nat)(hb : b≠0) : CallA Tryz.prog 313 [.one (.d (cg neg a b))] [] (B5 neg a b) []:=by
 have v1 : decide (b≠0) = true:=by simp [hb]
 have hsp : (a≤1099511627776∧b≤1099511627776∧(hU a).2 = true∧(hU a).1 = a∧(hU b).2 = true∧(hU b).1 = b)∨(¬ a≤1099511627776∧(hU a).2 = false)∨(a≤1099511627776∧¬ b≤1099511627776∧(hU a).2 = true∧(hU b).2 = false):=by
  unfold hU
  by_cases h1 : a≤1099511627776 <;> by_cases h2 : b≤1099511627776 <;> simp [h1,h2]
 unfold B5
 rcases hsp with ⟨h1,h2,e1,e2,e3,e4⟩ | ⟨h1,e1⟩ | ⟨h1,h2,e1,e2⟩
 ·rw [if_pos ⟨h1,h2⟩]
  have hc:=B3 a
  have hc2:=B3 b
  rw [e1,e2] at hc
  rw [e3,e4] at hc2
  refine enter ae Tryz.func313 rfl (by decide +kernel) rfl fun hok w0 σ0 φ0 M=>?_
  clear hok
  repeat' (first|(refine h1H ?_; (refine h0H ?_; first|refine aa J J J J J J J J (oJ _ _ _) J ?_|refine aa J J J J J J J J (hc) J ?_|refine aa J J J J J J J J (hc2) J ?_))|refine wG ?_|(refine h4H ?_; refine ag J (fun h=>?_) (fun h=>?_)))
  all_goals first
   | (exfalso; simp_all; done)
   | (simp only [*,if_true,if_false,Bool.false_eq_true]; rfl)
   | (rw [if_pos h,Int.zero_sub]; rfl)
   | skip
 ·rw [if_neg (fun h=>h1 h.1)]
  refine enter ae Tryz.func313 rfl (by decide +kernel) rfl fun hok w0 σ0 φ0 M=>?_
  clear hok
  repeat' (first|(refine h1H ?_; (refine h0H ?_; first|refine aa J J J J J J J J (oJ _ _ _) J ?_|refine aa J J J J J J J J (B3 _) J ?_|refine aa J J J J J J J J (Gf _) J ?_))|refine wG ?_|(refine h1H ?_; (refine h5H ?_; refine aG J J J J (fun h=>?_) (fun h=>?_)))|(refine h4H ?_; refine ag J (fun h=>?_) (fun h=>?_)))
  all_goals first
   | rfl
   | (exfalso; simp_all; done)
   | skip
 ·rw [if_neg (fun h=>h2 h.2)]
  refine enter ae Tryz.func313 rfl (by decide +kernel) rfl fun hok w0 σ0 φ0 M=>?_
  clear hok
  repeat' (first|(refine h1H ?_; (refine h0H ?_; first|refine aa J J J J J J J J (oJ _ _ _) J ?_|refine aa J J J J J J J J (B3 _) J ?_|refine aa J J J J J J J J (Gf _) J ?_))|refine wG ?_|(refine h1H ?_; (refine h5H ?_; refine aG J J J J (fun h=>?_) (fun h=>?_)))|(refine h4H ?_; refine ag J (fun h=>?_) (fun h=>?_)))
  all_goals first
   | rfl
   | (exfalso; simp_all; done)
   | skip
def aW(v : Val) : AV:=.agg [.d (.int .i64 v.kind),.d (.int .i64 v.num),.d (.int .i64 v.den),.d (.str v.str)]
def ay(b : Bool) : Val:=⟨1,if b then 1 else 0,0,[]⟩
def isV(v : Val)(k : Int) : Bool:=v.kind == 0 || v.kind == k
def gb(a b : Val) : Bool:=a.kind == 0 || isV b a.kind
def sgF(a b : Int) : Int:=if a < b then -1 else if b < a then 1 else 0
theorem xr(b : Bool) : CallA Tryz.prog 310 [.one (.d (.bool b))] [] (aW (ay b)) []:=by
 refine enter ae Tryz.func310 rfl (by decide +kernel) rfl fun hok w0 σ0 φ0 M=>?_
 clear hok
 repeat' (first|refine wG ?_|(refine h4H ?_; refine ag J (fun h=>?_) (fun h=>?_)))
 all_goals first | rfl | (simp_all [aW,ay,isV]; done)
theorem Fo(v : Val)(k : Int) : CallA Tryz.prog 336 [aW v,.one (.d (.int .i64 k))] [] (.one (.d (.bool (isV v k)))) []:=by
 unfold aW
 refine enter ae Tryz.func336 rfl (by decide +kernel) rfl fun hok w0 σ0 φ0 M=>?_
 clear hok
 repeat' (first|refine wG ?_|(refine h1H ?_; (refine h5H ?_; refine aG J J J J (fun h=>?_) (fun h=>?_))))
 all_goals first | rfl | (simp_all [aW,ay,isV]; done)
theorem I3(l : D) : CallA Tryz.prog 316 [.one (.d l)] [] (.one (.d (.bool true))) []:=by
 refine enter ae Tryz.func316 rfl (by decide +kernel) rfl fun hok w0 σ0 φ0 M=>?_
 clear hok
 repeat' (first|refine wG ?_)
 all_goals first | rfl | (simp_all [aW,ay,isV]; done)
theorem MA(a b : Int) : CallA Tryz.prog 380 [.one (.d (.int .i64 a)),.one (.d (.int .i64 b))] [] (.one (.d (.int .i64 (sgF a b)))) []:=by
 refine enter ae Tryz.func380 rfl (by decide +kernel) rfl fun hok w0 σ0 φ0 M=>?_
 clear hok
 repeat' (first|refine wG ?_|(refine h4H ?_; refine ag J (fun h=>?_) (fun h=>?_)))
 all_goals (refine congrArg (fun x=>AV.one (.d (.int .i64 x))) ?_; simp only [decide_eq_true_eq,decide_eq_false_iff_not] at *; unfold sgF; first | (rw [if_pos (by assumption)]; done) | (rw [if_neg (by omega),if_pos (by omega)]; done) | (rw [if_neg (by omega),if_neg (by omega)]; done))
theorem MB(a b : Int) : CallA Tryz.prog 383 [.one (.d (.int .i64 a)),.one (.d (.int .i64 b))] [] (.one (.d (.int .i64 (sgF a b)))) []:=by
 refine enter ae Tryz.func383 rfl (by decide +kernel) rfl fun hok w0 σ0 φ0 M=>?_
 clear hok
 repeat' (first|refine wG ?_|(refine h4H ?_; refine ag J (fun h=>?_) (fun h=>?_)))
 all_goals (refine congrArg (fun x=>AV.one (.d (.int .i64 x))) ?_; simp only [decide_eq_true_eq,decide_eq_false_iff_not] at *; unfold sgF; first | (rw [if_pos (by assumption)]; done) | (rw [if_neg (by omega),if_pos (by omega)]; done) | (rw [if_neg (by omega),if_neg (by omega)]; done))
theorem MC(o : Int) : CallA Tryz.prog 326 [.one (.d (.int .i64 o))] [] (.one (.d (.bool (o == 0)))) []:=by
 refine enter ae Tryz.func326 rfl (by decide +kernel) rfl fun hok w0 σ0 φ0 M=>?_
 clear hok
 repeat' (first|refine wG ?_)
 all_goals rfl
theorem MD(o : Int) : CallA Tryz.prog 327 [.one (.d (.int .i64 o))] [] (.one (.d (.bool (o != 0)))) []:=by
 refine enter ae Tryz.func327 rfl (by decide +kernel) rfl fun hok w0 σ0 φ0 M=>?_
 clear hok
 repeat' (first|refine wG ?_)
 all_goals rfl
theorem ME(o : Int) : CallA Tryz.prog 328 [.one (.d (.int .i64 o))] [] (.one (.d (.bool (decide (o < 0))))) []:=by
 refine enter ae Tryz.func328 rfl (by decide +kernel) rfl fun hok w0 σ0 φ0 M=>?_
 clear hok
 repeat' (first|refine wG ?_)
 all_goals rfl
theorem MF(o : Int) : CallA Tryz.prog 329 [.one (.d (.int .i64 o))] [] (.one (.d (.bool (decide (o≤0))))) []:=by
 refine enter ae Tryz.func329 rfl (by decide +kernel) rfl fun hok w0 σ0 φ0 M=>?_
 clear hok
 repeat' (first|refine wG ?_)
 all_goals rfl
theorem MG(o : Int) : CallA Tryz.prog 330 [.one (.d (.int .i64 o))] [] (.one (.d (.bool (decide (0 < o))))) []:=by
 refine enter ae Tryz.func330 rfl (by decide +kernel) rfl fun hok w0 σ0 φ0 M=>?_
 clear hok
 repeat' (first|refine wG ?_)
 all_goals rfl
theorem MH(o : Int) : CallA Tryz.prog 331 [.one (.d (.int .i64 o))] [] (.one (.d (.bool (decide (0≤o))))) []:=by
 refine enter ae Tryz.func331 rfl (by decide +kernel) rfl fun hok w0 σ0 φ0 M=>?_
 clear hok
 repeat' (first|refine wG ?_)
 all_goals rfl
theorem MI(l : List Val)(hl : 1≤l.length) : CallA Tryz.prog 309 [.one (.d (az l))] [] (aW (ay ((at_ l 0).num == 0))) []:=by
 refine enter ae Tryz.func309 rfl (by decide +kernel) rfl fun hok w0 σ0 φ0 M=>?_
 clear hok
 repeat' (first|(refine h1H ?_; (refine h0H ?_; refine aa J J J J J J J J (xr _) J ?_))|refine wG ?_)
 all_goals rfl
theorem MJ(l : List Val)(hl : 1≤l.length) : CallA Tryz.prog 318 [.one (.d (az l))] [] (aW (ay ((at_ l 0).kind == 0))) []:=by
 refine enter ae Tryz.func318 rfl (by decide +kernel) rfl fun hok w0 σ0 φ0 M=>?_
 clear hok
 repeat' (first|(refine h1H ?_; (refine h0H ?_; refine aa J J J J J J J J (xr _) J ?_))|refine wG ?_)
 all_goals rfl
theorem MK(l : List Val)(hl : 1≤l.length) : CallA Tryz.prog 319 [.one (.d (az l))] [] (aW ⟨2,if (at_ l 0).kind == 0 then (at_ l 0).num else 0,1,[]⟩) []:=by
 refine enter ae Tryz.func319 rfl (by decide +kernel) rfl fun hok w0 σ0 φ0 M=>?_
 clear hok
 repeat' (first|refine wG ?_|(refine h4H ?_; refine ag J (fun h=>?_) (fun h=>?_)))
 all_goals first | rfl | (simp_all [aW,ay,isV]; done)
theorem ML(l : List Val)(hl : 2≤l.length) : CallA Tryz.prog 334 [.one (.d (az l))] [] (aW (if (at_ l 0).kind == 0 then at_ l 1 else at_ l 0)) []:=by
 refine enter ae Tryz.func334 rfl (by decide +kernel) rfl fun hok w0 σ0 φ0 M=>?_
 clear hok
 repeat' (first|refine wG ?_|(refine h4H ?_; refine ag J (fun h=>?_) (fun h=>?_)))
 all_goals first | rfl | (simp_all [aW,ay,isV]; done)
theorem MN(l : List Val)(hl : 3≤l.length) : CallA Tryz.prog 337 [.one (.d (az l))] [] (aW (if (at_ l 0).kind == 0 then at_ l 0 else if (at_ l 0).num == 1 then at_ l 1 else at_ l 2)) []:=by
 refine enter ae Tryz.func337 rfl (by decide +kernel) rfl fun hok w0 σ0 φ0 M=>?_
 clear hok
 repeat' (first|refine wG ?_|(refine h4H ?_; refine ag J (fun h=>?_) (fun h=>?_)))
 all_goals first | rfl | (simp_all [aW,ay,isV]; done)
theorem pl(l : List Val)(hl : 2≤l.length) : CallA Tryz.prog 333 [.one (.d (az l))] [] (.one (.d (.bool (gb (at_ l (l.length - 2)) (at_ l (l.length - 1)))))) []:=by
 refine enter ae Tryz.func333 rfl (by decide +kernel) rfl fun hok w0 σ0 φ0 M=>?_
 have h1:=hok.1.sl.1; clear hok; simp only [List.length_map] at h1
 have e1 : (((l.map ab).length : Int) - 2).toNat = l.length - 2:=by rw [List.length_map]; omega
 have e2 : (((l.map ab).length : Int) - 1).toNat = l.length - 1:=by rw [List.length_map]; omega
 repeat' (first|(refine h1H ?_; (refine h0H ?_; refine aa J J J J J J J J (Fo _ _) J ?_))|refine wG ?_|(refine h1H ?_; (refine h5H ?_; refine aG J J J J (fun h=>?_) (fun h=>?_))))
 all_goals first | (rw [e1,e2]; rw [e1] at h; simp [gb,h]; done) | (rw [e1] at h; simp [gb,h]; done)
theorem MO(l : List Val)(hl : 3≤l.length) : CallA Tryz.prog 335 [.one (.d (az l))] [] (.one (.d (.bool (isV (at_ l 0) 1 && gb (at_ l (l.length - 2)) (at_ l (l.length - 1)))))) []:=by
 refine enter ae Tryz.func335 rfl (by decide +kernel) rfl fun hok w0 σ0 φ0 M=>?_
 clear hok
 repeat' (first|(refine h1H ?_; (refine h0H ?_; first|refine aa J J J J J J J J (Fo _ _) J ?_|refine aa J J J J J J J J (pl _ (by omega)) J ?_))|refine wG ?_|(refine h1H ?_; (refine h5H ?_; refine aG J J J J (fun h=>?_) (fun h=>?_))))
 all_goals first | rfl | (simp_all; done)
theorem oa(l : List Val)(kd : Int) : CallA Tryz.prog 350 [.one (.d (az l)),.one (.d (.ptr [.int .i64 kd]))] [] (.one (.d (.bool (l.all fun v=>isV v kd)))) []:=by
 refine enter ae Tryz.func350 rfl (by decide +kernel) rfl fun hok w0 σ0 φ0 M=>?_
 have h1:=hok.1.sl.1; clear hok; simp only [List.length_map] at h1
 repeat' (first|(refine h1H ?_; (refine h0H ?_; refine aa J J J J J J J J (Fo _ _) J ?_))|refine wG ?_|(refine h4H ?_; first|refine ag J (fun h=>?_) (fun h=>?_)|refine aB 2 J [(1,_),(6,_),(7,_)] (q3Q J J J) (fun (k : Nat)=>[(8,.one (.d (.int .i64 (k : Int))))]) (fun (k : Nat)=>k≤l.length∧l.all (fun v=>isV v kd) = (l.drop k).all (fun v=>isV v kd)) (fun (k : Nat)=>l.length - k) 0 (q1Q J) ?_ (fun k ⟨hk,hq⟩=>?_))|(show Exists _; refine Exists.intro (k + 1) ⟨?_,?_,wK,(q1Q J),(q3Q J J J)⟩))
 all_goals (try (((simp_all [am,List.drop_eq_nil_of_le]) <;> exact wL); done))
def gu(neg : Bool)(m n : Nat) : Bool×Nat×Nat:=(neg && decide (m≠0),m / Nat.gcd m n,n / Nat.gcd m n)
def dt(s1 : Bool)(a1 b1 : Nat)(s2 : Bool)(a2 b2 : Nat)(minus : Bool) : Bool×Nat×Nat :=
 if (s1 == (!(s2 == minus))) = true then gu (!(s2 == minus)) (a1 * b2 + a2 * b1) (b1 * b2) else if a2 * b1≤a1 * b2 then gu s1 (a1 * b2 - a2 * b1) (b1 * b2) else gu (!(s2 == minus)) (a2 * b1 - a1 * b2) (b1 * b2)
theorem y7{s1 : Bool}{a1 b1 : Nat}{s2 : Bool}{a2 b2 : Nat}{minus : Bool} : oI s1 a1 b1 s2 a2 b2 minus = cg (dt s1 a1 b1 s2 a2 b2 minus).1 (dt s1 a1 b1 s2 a2 b2 minus).2.1 (dt s1 a1 b1 s2 a2 b2 minus).2.2:=by
 unfold oI dt
 split
 ·rfl
 ·split
  ·rfl
  ·rfl
def mE(t : Bool×Nat×Nat) : Int:=if t.2.2 = 0∨t.2.1 = 0 then 0 else if t.1 = true then -1 else 1
theorem LO(hD : l7)(s1 : Bool)(a1 b1 : Nat)(s2 : Bool)(a2 b2 : Nat)(hR : RatOk a1 b1 a2 b2) : CallA Tryz.prog 322 [.one (.d (cg s1 a1 b1)),.one (.d (cg s2 a2 b2))] [] (.one (.d (cg (dt s1 a1 b1 s2 a2 b2 true).1 (dt s1 a1 b1 s2 a2 b2 true).2.1 (dt s1 a1 b1 s2 a2 b2 true).2.2))) []:=by
 rw [← y7]; exact JM hD s1 a1 b1 s2 a2 b2 hR
theorem MZ(hD : l7)(s1 : Bool)(a1 b1 : Nat)(s2 : Bool)(a2 b2 : Nat)(hR : RatOk a1 b1 a2 b2) : CallA Tryz.prog 381 [.one (.d (cg s1 a1 b1)),.one (.d (cg s2 a2 b2))] [] (.one (.d (.int .i64 (mE (dt s1 a1 b1 s2 a2 b2 true))))) []:=by
 refine enter ae Tryz.func381 rfl (by decide +kernel) rfl fun hok w0 σ0 φ0 M=>?_
 clear hok
 repeat' (first|(refine h1H ?_; (refine h0H ?_; first|refine aa J J J J J J J J (Qu _ _ _) J ?_|refine aw 16 J J J J J J J J (LO hD _ _ _ _ _ _ hR) J J J ?_))|refine wG ?_)
 all_goals rfl
def lY(v : Val) : D:=cg (decide (v.num < 0)) v.num.natAbs v.den.natAbs
theorem s9(v : Val) : CallA Tryz.prog 314 [aW v] [] (.one (.d (lY v))) []:=Qx _ _ _ _
def vP(neg : Bool)(a b : Nat) : Val:=if a≤1099511627776∧b≤1099511627776 then ⟨2,if neg = true then -(a : Int) else a,b,[]⟩ else ⟨0,2,0,[]⟩
theorem CV(neg : Bool)(a b : Nat)(hb : b≠0) : CallA Tryz.prog 313 [.one (.d (cg neg a b))] [] (aW (vP neg a b)) []:=by
 have h:=Ov neg a b hb
 have e : aW (vP neg a b) = B5 neg a b:=by
  unfold B5 vP
  by_cases hc : a≤1099511627776∧b≤1099511627776
  ·rw [if_pos hc,if_pos hc]; rfl
  ·rw [if_neg hc,if_neg hc]; rfl
 rwa [e]
theorem QD(l : List Val)(hl : 2≤l.length)(f : FuncId)(neg : Bool)(a b : Nat)(hb : b≠0)(hf : CallA Tryz.prog f [.one (.d (lY (at_ l 0))),.one (.d (lY (at_ l 1)))] [] (.one (.d (cg neg a b))) []) :
  CallA Tryz.prog 358 [.one (.d (az l)),.one (.d (.ptr [.fn f []]))] [] (aW (vP neg a b)) []:=by
 refine enter ae Tryz.func358 rfl (by decide +kernel) rfl fun hok w0 σ0 φ0 M=>?_
 clear hok
 repeat' (first|(refine h3H ?_; (refine h2H ?_; first|refine d_l J J (aA J J J J J J (CV _ _ _ hb) J) ?_|refine bh 16 J J J J J J J J (s9 _) J J ?_|refine bh 16 J J J J J J J J (hf) J J ?_))|refine wG ?_)
 all_goals first | rfl | skip
theorem LV(l : List Val)(hl : 2≤l.length)(neg : Bool)(a b : Nat)(hb : b≠0)(hf : CallA Tryz.prog 362 [.one (.d (lY (at_ l 0))),.one (.d (lY (at_ l 1)))] [] (.tup [(false,[.d (cg neg a b)]),(false,[.d (.int .i64 0)])]) []) :
  CallA Tryz.prog 324 [.one (.d (az l))] [] (aW (vP neg a b)) []:=by
 refine enter ae Tryz.func324 rfl (by decide +kernel) rfl fun hok w0 σ0 φ0 M=>?_
 clear hok
 repeat' (first|(refine h1H ?_; (refine h0H ?_; refine aa J J J J J J J J (CV _ _ _ hb) J ?_))|(refine h3H ?_; (refine h2H ?_; first|refine bh 16 J J J J J J J J (s9 _) J J ?_|refine bh 16 J J J J J J J J (hf) J J ?_))|refine wG ?_)
 all_goals first | rfl | skip
theorem LU(l : List Val)(hl : 2≤l.length)(hf : CallA Tryz.prog 362 [.one (.d (lY (at_ l 0))),.one (.d (lY (at_ l 1)))] [] (.tup [(false,[.d (.raw (.pointer none))]),(false,[.d (.int .i64 2)])]) []) :
  CallA Tryz.prog 324 [.one (.d (az l))] [] (aW ⟨0,3,0,[]⟩) []:=by
 refine enter ae Tryz.func324 rfl (by decide +kernel) rfl fun hok w0 σ0 φ0 M=>?_
 clear hok
 repeat' (first|(refine h1H ?_; (refine h0H ?_; refine aa J J J J J J J J (Gf _) J ?_))|(refine h3H ?_; (refine h2H ?_; first|refine d_l J J (aA J J J J J J (hf) J) ?_|refine bh 16 J J J J J J J J (s9 _) J J ?_))|refine wG ?_)
 all_goals first | rfl | skip
theorem pb : bk 1 = .sl 1 4 [[.int .u32 1]]:=by unfold bk cy; rw [u9]; rfl
theorem LZ(m : Nat)(hm : (dig m).length≤400) : CallA Tryz.prog 356 [.one (.d (bk m)),.one (.d (.sl 1 4 [[.int .u32 1]]))] [] (.one (.d (bk (m + 1)))) []:=by
 have:=Jq m 1 hm (by rw [u9]; simp)
 rwa [pb] at this
theorem QM(neg : Bool)(a b : Nat)(hb : b≠0)(hm : dl a≤100)(hn : dl b≤100)(hq : (dig (a / b)).length≤400) : CallA Tryz.prog 315 [.one (.d (cg neg a b))] [] (.one (.d (cg neg (if neg = true∧a % b≠0 then a / b + 1 else a / b) 1))) []:=by
 have v1 : decide (b≠0) = true:=by simp [hb]
 refine enter ae Tryz.func315 rfl (by decide +kernel) rfl fun hok w0 σ0 φ0 M=>?_
 clear hok
 repeat' (first|(refine h1H ?_; (refine h0H ?_; first|refine cS 40 [0] J J J J J J J J J (LZ _ hq) J J J ?_|refine aa J J J J J J J J (oJ _ _ _) J ?_))|(refine h4H ?_; first|refine bu (bR (dl:=[1,2]) J) (cv ?_)|refine bu (bR (dl:=[0,1]) J) (cv ?_))|(refine h3H ?_; (refine h2H ?_; refine bh 16 J J J J J J J J (up _ _ hb hm hn) J J ?_))|refine wG ?_|(refine h1H ?_; (refine h5H ?_; refine aG J J J J (fun h=>?_) (fun h=>?_)))|(refine h4H ?_; refine ag J (fun h=>?_) (fun h=>?_)))
 ·exact absurd ‹(!decide (b≠0)) = true› (by rw [v1]; simp)
 ·rw [if_pos ⟨‹neg = true›,qU h⟩]; unfold cg; rw [pb]; rfl
 ·rw [if_neg (fun hc=>hc.2 (zh h))]; unfold cg; rw [pb]; rfl
 ·rw [if_neg (fun hc=>by have h' : neg = false:=h; rw [h'] at hc; cases hc.1)]; unfold cg; rw [pb]; rfl
theorem QF(l : List Val)(hl : 1≤l.length)(hb : (at_ l 0).den.natAbs≠0)(hm : dl (at_ l 0).num.natAbs≤100)(hn : dl (at_ l 0).den.natAbs≤100)(hq : (dig ((at_ l 0).num.natAbs / (at_ l 0).den.natAbs)).length≤400) :
  CallA Tryz.prog 312 [.one (.d (az l))] [] (aW (vP (decide ((at_ l 0).num < 0)) (if (decide ((at_ l 0).num < 0)) = true∧(at_ l 0).num.natAbs % (at_ l 0).den.natAbs≠0 then (at_ l 0).num.natAbs / (at_ l 0).den.natAbs + 1 else (at_ l 0).num.natAbs / (at_ l 0).den.natAbs) 1)) []:=by
 refine enter ae Tryz.func312 rfl (by decide +kernel) rfl fun hok w0 σ0 φ0 M=>?_
 clear hok
 repeat' (first|(refine h1H ?_; (refine h0H ?_; first|refine aa J J J J J J J J (CV _ _ _ (by omega)) J ?_|refine aw 16 J J J J J J J J (s9 _) J J J ?_|refine aw 16 J J J J J J J J (QM _ _ _ hb hm hn hq) J J J ?_))|refine wG ?_)
 all_goals first | rfl | skip
def oV(v : Val) : Val:=⟨v.kind,IntKind.i64.wrap (0 - v.num),v.den,v.str⟩
theorem PL(l : List Val)(hl : 1≤l.length) :
  CallA Tryz.prog 311 [.one (.own 1000000 l.length)] [(1000000,.row 4 40 (l.map ab))] (aW (oV (at_ l 0))) [(1000000,.row 4 40 ((l.set 0 (oV (at_ l 0))).map ab))]:=by
 refine enter ae Tryz.func311 rfl (by decide +kernel) rfl fun hok w0 σ0 φ0 M=>?_
 clear hok
 repeat' (first|refine wG ?_)
 exact ja (.inl rfl) rfl rfl rfl (ai (congrArg (fun x=>some (AObj.row 4 40 x)) (List.map_set (f:=ab) (l:=l) (i:=0) (a:=oV (at_ l 0))).symm) aT)
end Go.Proofs.YtpejdgkaapnekaaGreat
namespace Go.Abs
open Go Go.Shelf Go.Proofs
variable {P : Program}
theorem xo {f : FuncId} {a b : List UInt8} {y : D} {yv : Value} (hfn : ∃ fn, P.funcs[f]? = some fn ∧ (fn.name == "runtime.NumGoroutine") = false ∧ fn.body.isSome = true)
  (hC : ∀ w,Calls P f #[.string ⟨a.toArray⟩,.string ⟨b.toArray⟩] w fun e w'=>e = .returned yv∧w' = w) (hy : ∀ σ,Rep σ y yv) : CallA P f [.one (.d (.str a)),.one (.d (.str b))] [] (.one (.d y)) []:=by
 refine ⟨hfn,fun w σ φ vs hI hA=>?_⟩
 match vs,hA with
 | [v0,v1],hA =>
   obtain ⟨hv0,hv1,_⟩:=hA
   have hv0 : RepC σ φ _ (.d (.str a)) v0:=hv0
   have hv1 : RepC σ φ _ (.d (.str b)) v1:=hv1
   replace hv0:=hv0.d_inv
   replace hv1:=hv1.d_inv
   cases hv0
   cases hv1
   refine (hC w).mono ?_
   rintro e w' ⟨rfl,rfl⟩
   exact ⟨_,σ,φ,rfl,Sig.le_refl _,fun b hb=>.inl hb,hI,.d (hy σ),fun i e p h1 h2=>(nomatch h1),fun _ _=>rfl,⟨rfl,rfl,rfl,Nat.le_refl _,Nat.le_refl _,fun _ _ _=>rfl⟩⟩
theorem Ah : ∀ (a b : List UInt8),Lib.compareBytes a b = if Op.bytesLess a b = true then -1 else if (!(Op.bytesLess a b || a == b)) = true then 1 else 0
 | [],[]=>rfl
 | [],_::_=>rfl
 | _::_,[]=>rfl
 | x::a,y::b=>by
   have ih:=Ah a b
   unfold Lib.compareBytes
   rw [ih]
   rw [show Op.bytesLess (x::a) (y::b) = (decide (x < y) || (x == y && Op.bytesLess a b)) from rfl]
   by_cases h1 : x < y
   ·simp [h1]
   ·by_cases h2 : y < x
    ·have : x≠y:=fun e=>by subst e; exact absurd h2 h1
     simp [h1,h2,this]
    ·have e : x = y:=by
      have h3 : ¬ x.toNat < y.toNat:=h1
      have h4 : ¬ y.toNat < x.toNat:=h2
      exact UInt8.toNat_inj.1 (by omega)
     subst e
     simp [h1]
end Go.Abs
namespace Go.Proofs.YtpejdgkaapnekaaGreat
open Go Go.Proofs Go.Shelf Go.Abs
def Fn : Go.Shelf.Ren:=⟨fun | 106=>382 | 213=>386 | 265=>387 | n=>n,fun | 3=>3 | 9=>9 | n=>n,fun | n=>n⟩
theorem My : Go.Proofs.Lays.n106 Tryz.prog Fn:={
 mixed:=by kernel_rfl
 f106:=Tryz.func382.trans (congrArg some (by kernel_rfl))
 f213:=Tryz.func386.trans (congrArg some (by kernel_rfl))
 f265:=Tryz.func387.trans (congrArg some (by kernel_rfl))
 t3:=Tryz.underlying3
 a3:=Tryz.isAgg3
 z3:=Tryz.sizeOf3
 v3:=Tryz.zeroValue3
 t9:=Tryz.underlying9
 a9:=Tryz.isAgg9
 z9:=Tryz.sizeOf9
 v9:=Tryz.zeroValue9 }
def lr(a b : List UInt8) : Int:=if Op.bytesLess a b = true then -1 else if (!(Op.bytesLess a b || a == b)) = true then 1 else 0
theorem Mz(a b : List UInt8) : CallA Tryz.prog 382 [.one (.d (.str a)),.one (.d (.str b))] [] (.one (.d (.int .i64 (lr a b)))) []:=by
 refine xo (yv:=.int .i64 (lr a b)) ⟨Tryz.f382,Tryz.func382,by kernel_rfl,by kernel_rfl⟩ (fun w=>?_) (fun σ=>.int ?_)
 ·have:=Any.strings_Compare My ⟨a.toArray⟩ ⟨b.toArray⟩ w
  rw [List.toList_toArray,List.toList_toArray,Ah] at this
  exact this
 ·unfold lr
  simp only [inR,IntKind.min,IntKind.max,IntKind.signed,IntKind.bits,if_true]
  split
  ·omega
  ·split <;> omega
end Go.Proofs.YtpejdgkaapnekaaGreat
