import Derived.Test.YtpejdgkaapnekaaGreatXP14
import Derived.Test.YtpejdgkaapnekaaGreatXP13
import Derived.Test.YtpejdgkaapnekaaGreatXP12
import Derived.Test.YtpejdgkaapnekaaGreatXP11
set_option linter.unusedVariables false
set_option linter.unusedSimpArgs false
set_option maxHeartbeats 1000000
namespace Go.Abs
open Go
variable {P : Program} {V : Env} {st : St} {o : Oper}
theorem rD{t e : TypeId}{x y : Operand}{id m k k' b b' : Nat}{ik : IntKind}{i : Int}{xs : List (List D)}{z : List D}(ho : o.op = .indexAddr t x y)(ht : aW V.T t = some (e,k',b',z))(hx : ev st x = some (.one (.own id m)))
  (hl : look st.sto id = some (.row k b xs)) (hk : Nat.beq k k' = true) (hy : ev st y = some (.one (.d (.int ik i)))) (h0 : 0≤i) (hm : i < (m : Int)) : aV V st o 0 = some ⟨.one (.rref id i.toNat 0),[],[]⟩:=by
 simp only [aV,cT,b6,ho,cD,px,hx,hy,ht,hl,hk,h0,hm,decide_true,Bool.and_self,cond_true]
theorem dS{t : TypeId}{x : Operand}{id j off k b s : Nat}{g : Bool}{xs : List (List D)}{el : List D}{v : AV}(ho : o.op = .load t x)(hx : ev st x = some (.one (.rref id j off)))(hT : jg V.T t = some (g,s))
  (hl : look st.sto id = some (.row k b xs)) (hj : xs[j]? = some el) (hv : fC g s ((el.drop off).map .d) = some v) : aV V st o 0 = some ⟨v,[],[]⟩:=by
 simp only [aV,cT,b6,ho,cD,hx,hT,hl,lB,mP,gl,hj,hv]
theorem dZ{t : TypeId}{x y : Operand}{id j off k b s : Nat}{g : Bool}{xs : List (List D)}{el el' ds : List D}{cs : List AC}{v : AV}(ho : o.op = .store t x y)(hd : o.dst = none)(hx : ev st x = some (.one (.rref id j off)))(hy : ev st y = some v)(hT : jg V.T t = some (g,s))
  (hl : look st.sto id = some (.row k b xs)) (hc : cellsOf v = some cs) (hs : Nat.beq cs.length s = true) (ha : fm cs = some ds) (hj : xs[j]? = some el) (hsp : cZ off ds el = some el') : aV V st o 0 = some ⟨.any,[(id,some (.row k b (xs.set j el')))],[]⟩:=by
 simp only [aV,cT,b6,ho,cD,hx,hy,hT,hl,hc,hs,ha,mQ,gl,hj,hsp,cond_true]
 simp [hd,gT]
theorem CG{xs : List (List D)}{j : Nat}{el : List D}(h : j < xs.length) : (xs.set j el)[j]? = some el:=by simp [h]
theorem ea{α : Type}[Inhabited α]{f : α→List D}{l : List α}{xs : List (List D)}{i : Nat}(h : xs = l.map f)(hi : i < xs.length) : xs[i]? = some (f (at_ l i)):=by
 subst h; exact fy (by simpa using hi)
theorem bO{t e : TypeId}{x y : Operand}{id n k b d : Nat}{i j : Int}{z : List D}(ho : o.op = .makeSlice t x y)(hd : o.dst = some d)(ht : aW V.T t = some (e,k,b,z))(hx : ev st x = some (.one (.d (.int .i64 i))))(hy : ev st y = some (.one (.d (.int .i64 j))))(hi : i = (n : Int))(hj : j = (n : Int))(hn : n≤1000)(hb : b≤100) :
  aV V st o id = some ⟨.one (.own id n),[(id,some (.row k b (List.replicate n z)))],[id]⟩:=by
 subst hi; subst hj
 have h1 : Nat.ble (n * b) 1000000 = true:=Nat.ble_eq.mpr (Nat.le_trans (Nat.mul_le_mul hn hb) (by omega))
 have h2 : Nat.ble n 1000000 = true:=Nat.ble_eq.mpr (by omega)
 have h3 : (0 : Int)≤(n : Int):=Int.natCast_nonneg n
 simp only [aV,cT,b6,ho,cD,lY,hx,hy,ht,hd,gT,h3,decide_true,Int.toNat_natCast,h1,h2,Bool.and_self,cond_true]
end Go.Abs
namespace Go.Abs
open Go
variable {V : Env} {st : St} {o : Oper}
end Go.Abs
namespace Go.Proofs.YtpejdgkaapnekaaGreat
open Go Go.Abs
attribute [local irreducible] ae OkC ar aA av aN
set_option maxRecDepth 10000
def Qi(v : Val) : AV:=.agg [.d (.int .i64 v.kind),.d (.int .i64 v.num),.d (.int .i64 v.den),.d (.str v.str)]
theorem Qj(n : Int) : CallA Tryz.prog 185 [.one (.d (.int .i64 n))] [] (Qi ⟨2,n,1,[]⟩) []:=by
 refine enter af Tryz.func185 rfl (by decide +kernel) rfl fun hok w0 σ0 φ0 M=>?_
 clear hok
 repeat' (first|refine wG ?_)
 all_goals rfl
end Go.Proofs.YtpejdgkaapnekaaGreat
namespace Go.Proofs.YtpejdgkaapnekaaGreat
open Go Go.Abs
attribute [local irreducible] ae OkC ar aA av aN
set_option maxRecDepth 10000
section
variable {src : List (Int×Bool)} {c : Cell} {k : Nat}
end
end Go.Proofs.YtpejdgkaapnekaaGreat
namespace Go.Proofs.YtpejdgkaapnekaaGreat
open Go Go.Abs
attribute [local irreducible] ae OkC ar aA av aN
set_option maxRecDepth 10000
def dz(s : List UInt8) : List D:=[.str s]
def kQ(l : List (List UInt8)) : D:=.sl 1 16 (l.map dz)
theorem jM{α : Type}[Inhabited α](f : α→List D)(l : List α){n : Nat}{r : List (List D)}(h : r = (l.take n).map f)(hlt : n < l.length) : r.take n ++ [f (at_ l n)] = (l.take (n + 1)).map f:=by
 rw [h]; exact mE f l hlt
section
variable {src kept : List (Int×Bool)} {ds : List Dim} {rule : Int} {c : Cell} {cs cs' l : List Cell} {x : List Int} {j : Nat}
end
end Go.Proofs.YtpejdgkaapnekaaGreat
namespace Go.Proofs.YtpejdgkaapnekaaGreat
open Go Go.Abs
attribute [local irreducible] ae OkC ar aA av aN
set_option maxRecDepth 10000
structure Dok (ds : List Dim) : Prop where
 len : 1≤ds.length∧ds.length≤4
 bnd : ∀ i,i < ds.length→-1073741824≤(at_ ds i).lo∧(at_ ds i).lo≤1073741824∧(at_ ds i).lo≤(at_ ds i).hi∧(at_ ds i).hi≤1073741825
 ext : ∀ i,i < ds.length→1≤(at_ ds i).hi - (at_ ds i).lo + 1
theorem KT{α : Type}[Inhabited α]{p : α→Bool}{l : List α} : decide (0≤aL p l 0) = l.any p:=by
 rw [Bool.eq_iff_iff,decide_eq_true_eq,List.any_eq_true]
 constructor
 ·intro h
  obtain ⟨k,_,h2,h3,_⟩:=kR (p:=p) (l:=l) (j:=0) (by omega)
  exact ⟨_,bT h2,h3⟩
 ·rintro ⟨x,hx,hp⟩
  by_cases h0 : aL p l 0 < 0
  ·have:=kp h0 x hx
   rw [hp] at this; cases this
  ·omega
structure Vok (ds : List Dim) : Prop where
 dok : Dok ds
 fin : ∀ i,i < ds.length→(at_ ds i).hi≤1073741824
 vol : (Qy ds).1 = r9 ds
 part : ∀ i,i < ds.length→r9 (ds.take i) * ((at_ ds i).hi - (at_ ds i).lo + 1)≤4611686018427387904
 all : r9 ds≤4611686018427387904
theorem Pu(l : List Int)(v : Int) : CallA Tryz.prog 249 [.one (.d (aM l)),.one (.d (.int .i64 v))] [] (.one (.d (.int .i64 (aL (fun x=>v == x) l 0)))) []:=by
 refine enter af Tryz.func249 rfl (by decide +kernel) rfl fun hok w0 σ0 φ0 M=>?_
 have h1:=hok.1.sl; clear hok; simp only [List.length_map] at h1; replace h1:=h1.1
 repeat' (first|refine wG ?_|(refine h4H ?_; first|refine ah J (fun h=>?_) (fun h=>?_)|refine aH 2 J [(0,_),(1,_),(7,_)] (q3Q J J J) (fun (k : Nat)=>[(8,.one (.d (.int .i64 (k : Int))))]) (fun (k : Nat)=>k≤l.length∧aL (fun x=>v == x) l 0 = aL (fun x=>v == x) (l.drop k) k) (fun (k : Nat)=>l.length - k) 0 (q1Q J) ?_ (fun k ⟨hk,hs⟩=>?_))|(show Exists _; refine Exists.intro (k + 1) ⟨?_,?_,wK,(q1Q J),(q3Q J J J)⟩))
 all_goals (try (((simp_all [aL,ao,List.drop_eq_nil_of_le]) <;> exact wL); done))
theorem Pv(l : List Int)(v : Int) : CallA Tryz.prog 206 [.one (.d (aM l)),.one (.d (.int .i64 v))] [] (.one (.d (.bool (l.contains v)))) []:=by
 refine enter af Tryz.func206 rfl (by decide +kernel) rfl fun hok w0 σ0 φ0 M=>?_
 clear hok
 repeat' (first|(refine h1H ?_; (refine h0H ?_; refine aa J J J J J J J J (Pu _ _) J ?_))|refine wG ?_)
 all_goals
  rw [KT]
  have e : (l.any fun x=>v == x) = l.contains v:=by
   rw [Bool.eq_iff_iff]; simp
  rw [e]
theorem Na(ys : List (List D))(l : List Int)(v : Int)(h : ys = l.map bJ) : CallA Tryz.prog 206 [.one (.d (.sl 1 8 ys)),.one (.d (.int .i64 v))] [] (.one (.d (.bool (l.contains v)))) []:=by
 subst h; exact Pv l v
def mO{α : Type}(Y : List α)(z : α)(k : Nat) : List α:=Y.take k ++ List.replicate (Y.length - k) z
theorem xa{α : Type}[Inhabited α]{Y : List α}{z : α}{k : Nat}(h : k < Y.length) : (mO Y z k).set k (at_ Y k) = mO Y z (k + 1):=by
 unfold mO
 have hl : (Y.take k).length = k:=by simp; omega
 obtain ⟨m,hm⟩ : ∃ m,Y.length - k = m + 1:=⟨Y.length - k - 1,by omega⟩
 rw [List.set_append,if_neg (by omega),hl,Nat.sub_self,hm,List.replicate_succ,List.set_cons_zero,ez h,List.append_assoc,show Y.length - (k + 1) = m by omega]
 rfl
theorem ze{α : Type}{Y : List α}{z : α} : mO Y z Y.length = Y:=by simp [mO]
theorem xb{α : Type}{Y : List α}{z : α} : mO Y z 0 = List.replicate Y.length z:=by simp [mO]
theorem IY(l : List Attr)(hne : 0 < l.length) : CallA Tryz.prog 145 [.one (.d (ax l))] [] (.one (.own 0 l.length)) [(0,.row 2 24 (l.map aX))]:=by
 refine enter af Tryz.func145 rfl (by decide +kernel) rfl fun hok w0 σ0 φ0 M=>?_
 have h1:=hok.1.sl; clear hok; simp only [List.length_map] at h1
 repeat' (first|(refine h1H ?_; (refine h6H ?_; refine eZ af J J J J J J (fun r hr=>?_)))|(refine h1H ?_; (refine h0H ?_; refine cK af J J J J J (id:=0) J J J J J J J (by simp only [List.length_map,Nat.zero_add]; omega) (by simp only [List.length_map,Nat.zero_add]; omega) ?_))|refine wG ?_|(refine h4H ?_; refine ah J (fun h=>?_) (fun h=>?_)))
 ·have e:=hr (by simpa using h)
  simp only [List.map_eq_nil_iff] at e
  subst e; simp at hne
 ·simp
theorem MT(ds : List Dim)(ats : List Attr)(cs : List Cell)(hd : cs.Pairwise bZ)(hne : 0 < ds.length)(hna : 0 < ats.length)(h4 : cs.length≤4096) : CallA Tryz.prog 99 [.one (.d (aF ds)),.one (.d (ax ats)),.one (.d (aO cs))] [] (.tup [(true,[.own 2 ds.length,.own 4 ats.length,.d (aO (bz cs))]),(false,[.d (.int .i64 0)])]) [(2,.row 3 32 (ds.map cm)),(4,.row 2 24 (ats.map aX))]:=by
 refine enter af Tryz.func99 rfl (by decide +kernel) rfl fun hok w0 σ0 φ0 M=>?_
 have h1:=hok.2.2.1.sl; clear hok; simp only [List.length_map] at h1; replace h1:=h1.1
 have hb : decide (4096 < ((cs.map aD).length : Int)) = false:=by simp; omega
 repeat' (first|(refine h1H ?_; (refine h0H ?_; first|refine ey 2 [] (rav':=.one (.own 2 ds.length)) (OS ds hne) J J J J J J trivial di J J J J ?_|refine ey 4 [] (rav':=.one (.own 4 ats.length)) (IY ats hna) J J J J J J trivial di J J J J ?_|refine E7 10 cs J J J J J J J J (hr.trans (yK _ (by first|omega|(simp only [decide_eq_true_eq,decide_eq_false_iff_not,List.length_map] at *; omega)))) (by first|omega|(simp only [decide_eq_true_eq,decide_eq_false_iff_not,List.length_map] at *; omega)) hd J ?_))|(refine h4H ?_; refine bf (bq (dl:=[10]) J) (bH ?_))|(refine h3H ?_; (refine h2H ?_; first|refine bh 16 J J J J J J J J (KD _) J J ?_|refine bh 16 J J J J J J J J (KF _) J J ?_))|refine wG ?_|(refine h4H ?_; first|refine ah J (fun h=>?_) (fun h=>?_)|refine dX 5 J (jZ 1 2 10 (k:=2) (b:=48) J J (by kernel_rfl)) [(6,_),(8,_),(20,_),(21,_)] (q4Q J J J J) (fun (bN : Bool×Bool) (p : Nat×List (List D))=>[(22,.one (.d (.int .i64 (p.1 : Int))))]) (fun (bN : Bool×Bool) (p : Nat×List (List D))=>[(1,.box [.own 2 ds.length,.own 4 ats.length,.own (nmA bN) p.1]),((nmA bN),.row 2 48 p.2),(2,.row 3 32 (ds.map cm)),(4,.row 2 24 (ats.map aX)),(0,.box [.d .nil,.d .nil,.d .nil])]) (fun (p : Nat×List (List D))=>p.1≤cs.length∧p.2 = (cs.take p.1).map aD) (fun (p : Nat×List (List D))=>cs.length - p.1) (0,[]) (q1Q J) wK (fun b y=>by obtain ⟨b1,b2⟩:=b; cases b1 <;> cases b2 <;> first|exact Imp.refl _|exact dY qN (by kernel_rfl)) ?_ (fun p ⟨hk,hr⟩=>?_))|(show Exists _; refine Exists.intro ((p.1 + 1,p.2.take p.1 ++ [aD (at_ cs p.1)])) (Exists.intro (true,false) ⟨?_,?_,wK,(q1Q J),(q4Q J J J J)⟩)))
 all_goals first
  | exact ⟨Nat.zero_le _,rfl⟩
  | (have hlt : p.1 < cs.length:=by simpa using h
     exact ⟨hlt,mE aD cs hlt ▸ hr ▸ rfl⟩)
  | (have hlt : p.1 < cs.length:=by simpa using h
     show cs.length - (p.1 + 1) < cs.length - p.1
     omega)
  | (have hge : cs.length≤p.1:=by simpa using h
     show AV.tup [(true,[.own 2 ds.length,.own 4 ats.length,.d (.sl 2 48 (((bz cs).map aD).take p.1))]),_] = _
     rw [List.take_of_length_le (by simp only [List.length_map,ij]; exact hge)]
     rfl)
  | skip
theorem AS(a : Arr)(name : List UInt8) : CallA Tryz.prog 143 [.agg [.d (aF a.dims),.d (ax a.attrs),.d (aO a.cells)],.one (.d (.str name))] [] (.one (.d (.bool (cx a name)))) []:=by
 refine enter af Tryz.func143 rfl (by decide +kernel) rfl fun hok w0 σ0 φ0 M=>?_
 clear hok
 repeat' (first|(refine h1H ?_; (refine h0H ?_; first|refine aa J J J J J J J J (vN _ _ _ _) J ?_|refine aa J J J J J J J J (zu _ _ _ _) J ?_))|refine wG ?_|(refine h1H ?_; (refine h5H ?_; refine aJ J J J J (fun h=>?_) (fun h=>?_))))
 ·have e : cx a name = decide (0≤aL (fun x : Attr=>x.name == name) a.attrs 0):=by
   show (decide (0≤aL (fun x : Dim=>x.name == name) a.dims 0) || _) = _
   rw [h]; rfl
  rw [e]
 ·have e : cx a name = true:=by
   show (decide (0≤aL (fun x : Dim=>x.name == name) a.dims 0) || _) = _
   rw [h]; rfl
  rw [e]
theorem q9(a : Arr)(n m : List UInt8) :
  ((!bD [a]) = true∧jf a n m = (none,2)) ∨
  ((!bD [a]) = false∧(!cx a n) = true∧jf a n m = (none,11)) ∨
  ((!bD [a]) = false∧(!cx a n) = false∧(!bP m) = true∧jf a n m = (none,11)) ∨
  ((!bD [a]) = false∧(!cx a n) = false∧(!bP m) = false∧(!(m == n)) = true∧cx a m = true∧jf a n m = (none,11)) ∨
  ((!bD [a]) = false∧(!cx a n) = false∧(!bP m) = false∧((!(m == n)) = false∨((!(m == n)) = true∧cx a m = false))∧Ren a n m∧jf a n m = (some (pB a n m),0)):=by
 by_cases hc : gf a = 0
 rotate_left
 ·exact .inl ⟨by simp [bD,hc],by unfold jf; rw [if_pos hc]⟩
 have hv : (!bD [a]) = false:=by simp [bD,hc]
 have key : jf a n m = if !cx a n || !bP m || (!(m == n) && cx a m) then (none,11) else (some (pB a n m),0):=by unfold jf; rw [if_neg (by simp [hc])]
 cases h1 : cx a n
 ·exact .inr (.inl ⟨hv,rfl,by rw [key]; simp [h1]⟩)
 cases h2 : bP m
 ·exact .inr (.inr (.inl ⟨hv,rfl,rfl,by rw [key]; simp [h1,h2]⟩))
 have hR : ¬ (!(m == n) && cx a m) = true→Ren a n m∧jf a n m = (some (pB a n m),0):=fun h3=>by
  rcases Dv a n m hc with ⟨e,he,h4⟩ | h4
  ·rw [key,if_neg (by simpa [h1,h2] using h3)] at h4
   simp at h4
  ·exact h4
 cases h3 : (m == n)
 ·cases h4 : cx a m
  ·obtain ⟨r1,r2⟩:=hR (by simp [h3,h4])
   exact .inr (.inr (.inr (.inr ⟨hv,rfl,rfl,.inr ⟨rfl,rfl⟩,r1,r2⟩)))
  ·exact .inr (.inr (.inr (.inl ⟨hv,rfl,rfl,rfl,rfl,by rw [key]; simp [h1,h2,h3,h4]⟩)))
 ·obtain ⟨r1,r2⟩:=hR (by simp [h3])
  exact .inr (.inr (.inr (.inr ⟨hv,rfl,rfl,.inl rfl,r1,r2⟩)))
theorem Ox(ds : List Dim)(ats : List Attr)(cs : D)(name : List UInt8)(k : Nat)(h : atX ats name = (k : Int)) : CallA Tryz.prog 148 [.agg [.d (aF ds),.d (ax ats),.d cs],.one (.d (.str name))] [] (.one (.d (.int .i64 (k : Int)))) []:=by
 have h1:=zu ds ats cs name
 unfold atX at h
 rw [h] at h1; exact h1
theorem Oy(ds : List Dim)(ats : List Attr)(cs : D)(name : List UInt8)(k : Nat)(h : er ds name = (k : Int)) : CallA Tryz.prog 126 [.agg [.d (aF ds),.d (ax ats),.d cs],.one (.d (.str name))] [] (.one (.d (.int .i64 (k : Int)))) []:=by
 have h1:=vN ds ats cs name
 unfold er at h
 rw [h] at h1; exact h1
theorem B8{ds : List Dim}{k : Nat}{d : Dim} : (ds.map cm).set k (cm d) = (ds.set k d).map cm:=by rw [List.map_set]
theorem zZ{ds : List Attr}{k : Nat}{d : Attr} : (ds.map aX).set k (aX d) = (ds.set k d).map aX:=by rw [List.map_set]
set_option maxHeartbeats 8000000 in
theorem c48(a : Arr)(n m : List UInt8) : CallA Tryz.prog 48 [fa a,.one (.d (.str n)),.one (.d (.str m))] [] (jw (jf a n m)) []:=by
 unfold fa
 refine enter af Tryz.func48 rfl (by decide +kernel) rfl fun hok w0 σ0 φ0 M=>?_
 clear hok
 rcases q9 a n m with ⟨hv,e⟩ | ⟨hv,hb1,e⟩ | ⟨hv,hb1,hb2,e⟩ | ⟨hv,hb1,hb2,hb3,hb4,e⟩ | ⟨hv,hb1,hb2,hb34,hR,e⟩
 all_goals rw [e]
 rotate_right
 have hcn:=hR.oka.few
 have hd1:=hR.oka.dims.1
 have ha1:=(cH hR.oka.sch).2.1
 have hso:=pr hR.oka.srt
 rcases hR.which with ⟨k,hX,hk,hn,e2⟩ | ⟨hnd,k,hX,hk,hn,e2⟩
 all_goals (try rw [e2])
 ·have hp : decide (0≤(k : Int)) = true:=by simp
  rcases hb34 with hb3 | ⟨hb3,hb4⟩
  repeat' (first|(refine h1H ?_; (refine h0H ?_; first|refine gx [2] J J J J J J J J J (c96 [a]) J ?_|refine ey 16 [] (rav':=.tup [(true,[.own 18 a.dims.length,.own 20 a.attrs.length,.d (aO (bz a.cells))]),(false,[.d (.int .i64 0)])]) (MT a.dims a.attrs a.cells (cu hR.oka.srt) (by omega) (by omega) hcn) J J J J J J trivial di J J J J ?_|refine aa J J J J J J J J (qH _) J ?_|refine aa J J J J J J J J (AS a _) J ?_|refine aa J J J J J J J J (Oy a.dims a.attrs _ n k hX) J ?_))|(refine h4H ?_; refine bf (bq (dl:=[18,20]) J) (bH ?_))|refine wG ?_)
  all_goals
   show AV.tup [(true,[.d (.sl 3 32 (((a.dims.map cm).set k (cm ⟨m,(at_ a.dims k).lo,(at_ a.dims k).hi⟩)).take a.dims.length)),.d (.sl 2 24 ((a.attrs.map aX).take a.attrs.length)),.d (aO (bz a.cells))]),(false,[.d (.int .i64 0)])] = _
   rw [B8,List.take_of_length_le (by simp),List.take_of_length_le (by simp),hso]
   rfl
 ·have hp : decide (0≤aL (fun x : Dim=>x.name == n) a.dims 0) = false:=by
   have : ¬ 0≤er a.dims n:=fun hh=>hnd (dimX_mem.1 hh)
   exact decide_eq_false this
  rcases hb34 with hb3 | ⟨hb3,hb4⟩
  repeat' (first|(refine h1H ?_; (refine h0H ?_; first|refine gx [2] J J J J J J J J J (c96 [a]) J ?_|refine ey 16 [] (rav':=.tup [(true,[.own 18 a.dims.length,.own 20 a.attrs.length,.d (aO (bz a.cells))]),(false,[.d (.int .i64 0)])]) (MT a.dims a.attrs a.cells (cu hR.oka.srt) (by omega) (by omega) hcn) J J J J J J trivial di J J J J ?_|refine aa J J J J J J J J (qH _) J ?_|refine aa J J J J J J J J (AS a _) J ?_|refine aa J J J J J J J J (vN _ _ _ _) J ?_))|(refine h4H ?_; refine bf (bq (dl:=[18,20]) J) (bH ?_))|(refine h3H ?_; (refine h2H ?_; refine d_l J J (aB J J J J J J (Ox a.dims a.attrs _ n k hX) J) ?_))|refine wG ?_)
  all_goals
   show AV.tup [(true,[.d (.sl 3 32 ((a.dims.map cm).take a.dims.length)),.d (.sl 2 24 (((a.attrs.map aX).set k (aX ⟨m,(at_ a.attrs k).type⟩)).take a.attrs.length)),.d (aO (bz a.cells))]),(false,[.d (.int .i64 0)])] = _
   rw [zZ,List.take_of_length_le (by simp),List.take_of_length_le (by simp),hso]
   rfl
 repeat' (first|(refine h1H ?_; (refine h0H ?_; first|refine gx [2] J J J J J J J J J (c96 [a]) J ?_|refine aa J J J J J J J J (qH _) J ?_|refine aa J J J J J J J J (AS a _) J ?_))|refine wG ?_)
 all_goals rfl
def ep(ats : List Attr) : List Int→List (List UInt8)→Option (List Int)
 | acc,[]=>some acc
 | acc,n::r=>if atX ats n < 0 then none else if acc.contains (atX ats n) then none else ep ats (acc ++ [atX ats n]) r
theorem jL{ats : List Attr}{n : List UInt8}{r : List (List UInt8)}{acc : List Int} : ep ats acc (n::r) = if atX ats n < 0 then none else if acc.contains (atX ats n) then none else ep ats (acc ++ [atX ats n]) r:=rfl
theorem BQ{ats : List Attr} : ∀ {names : List (List UInt8)} {acc ks : List Int},ep ats acc names = some ks→ks = acc ++ names.map (atX ats)∧(∀ n∈names,¬ atX ats n < 0)∧(acc.Nodup→ks.Nodup)
 | [],acc,ks,h=>by
   simp only [ep,Option.some.injEq] at h
   subst h; simp
 | n::r,acc,ks,h=>by
   simp only [ep] at h
   split at h
   ·cases h
   split at h
   ·cases h
   rename_i h1 h2
   obtain ⟨e1,e2,e3⟩:=BQ h
   refine ⟨by rw [e1]; simp,fun x hx=>?_,fun hn=>e3 ?_⟩
   ·rcases List.mem_cons.1 hx with rfl | hx
    ·exact h1
    ·exact e2 x hx
   ·have h3 : atX ats n ∉ acc:=by simpa using h2
    rw [List.nodup_append]
    exact ⟨hn,by simp,fun a ha b hb=>by rw [List.mem_singleton.1 hb]; rintro rfl; exact h3 ha⟩
def pjC(ks : List Int)(c : Cell) : Cell:=⟨c.at',bF c.vals ks⟩
def fN(a : Arr)(names : List (List UInt8)) : Option Arr×Int :=
 if gf a≠0∨names.length = 0 then (none,2)
 else match ep a.attrs [] names with
  | none=>(none,11)
  | some ks=>jx a.dims (bF a.attrs ks) (a.cells.map (pjC ks))
def KX : Option (List Int)→AV
 | some ks=>.tup [(false,[.d (aM ks)]),(false,[.d (.bool true)])]
 | none=>.tup [(false,[.d .nil]),(false,[.d (.bool false)])]
theorem KY(ds : List Attr)(names : List (List UInt8))(hn : names.length≤1048576) : CallA Tryz.prog 150 [.one (.d (ax ds)),.one (.d (kQ names)),.one (.d (.fn 151 []))] [] (KX (ep ds [] names)) []:=by
 refine enter af Tryz.func150 rfl (by decide +kernel) rfl fun hok w0 σ0 φ0 M=>?_
 clear hok
 repeat' (first|(refine h1H ?_; (refine h0H ?_; first|refine gx [10] J J J J J J J J J (Na _ ((names.take p.1).map (atX ds)) _ (by rw [List.take_of_length_le (by rw [hr]; simp; omega),hr]; simp [List.map_map,Function.comp_def])) J ?_|refine aa J J J J J J J J (K4 _ _) J ?_))|(refine h4H ?_; refine bf (bq (dl:=[10]) J) (bH ?_))|refine wG ?_|(refine h1H ?_; (refine h5H ?_; refine aJ J J J J (fun h=>?_) (fun h=>?_)))|(refine h4H ?_; first|refine ah J (fun h=>?_) (fun h=>?_)|refine dX 3 J (dT (s:=8) (id:=10) (k:=1) (b:=8) J J J J) [(0,_),(2,_),(12,_),(13,_)] (q4Q J J J J) (fun (bN : Bool×Bool) (p : Nat×List (List D))=>[(8,.one (.own 10 p.1)),(14,.one (.d (.int .i64 (p.1 : Int))))]) (fun (bN : Bool×Bool) (p : Nat×List (List D))=>[(10,.row 1 8 p.2)]) (fun (p : Nat×List (List D))=>p.1≤names.length∧p.2 = (names.take p.1).map (fun n=>bJ (atX ds n))∧ep ds [] names = ep ds ((names.take p.1).map (atX ds)) (names.drop p.1)) (fun (p : Nat×List (List D))=>names.length - p.1) (0,[]) (q2Q J J) wK (fun b y=>by obtain ⟨b1,b2⟩:=b; cases b1 <;> cases b2 <;> first|exact Imp.refl _|exact dY qN (by kernel_rfl)) ?_ (fun p ⟨hk,hr,hs⟩=>?_))|(show Exists _; refine Exists.intro ((p.1 + 1,p.2.take p.1 ++ [[.int .i64 (atX ds (at_ names p.1))]])) (Exists.intro (false,false) ⟨?_,?_,wK,(q2Q J J),(q4Q J J J J)⟩)))
 ·exact ⟨Nat.zero_le _,rfl,rfl⟩
 ·have hlt : p.1 < names.length:=by simpa using ‹decide ((p.1 : Int) < ((names.map dz).length : Int)) = true›
  have hd : ¬ atX ds (at_ names p.1) < 0:=of_decide_eq_false ‹decide (aL (fun a : Attr=>a.name == at_ names (p.1 : Int).toNat) ds 0 < 0) = false›
  have hc : ((names.take p.1).map (atX ds)).contains (atX ds (at_ names p.1)) = true:=h
  rw [hs,ao hlt,jL,if_neg hd,if_pos hc]; rfl
 ·have hlt : p.1 < names.length:=by simpa using ‹decide ((p.1 : Int) < ((names.map dz).length : Int)) = true›
  have hd : ¬ atX ds (at_ names p.1) < 0:=of_decide_eq_false ‹decide (aL (fun a : Attr=>a.name == at_ names (p.1 : Int).toNat) ds 0 < 0) = false›
  have hc : ¬ ((names.take p.1).map (atX ds)).contains (atX ds (at_ names p.1)) = true:=by rw [Bool.not_eq_true]; exact h
  refine ⟨hlt,jM (fun n=>bJ (atX ds n)) names hr hlt,?_⟩
  rw [hs,ao hlt,jL,if_neg hd,if_neg hc]
  show _ = ep ds ((names.take (p.1 + 1)).map (atX ds)) (names.drop (p.1 + 1))
  rw [ez hlt,List.map_append]; rfl
 ·have hlt : p.1 < names.length:=by simpa using ‹decide ((p.1 : Int) < ((names.map dz).length : Int)) = true›
  show names.length - (p.1 + 1) < names.length - p.1
  omega
 ·have hlt : p.1 < names.length:=by simpa using ‹decide ((p.1 : Int) < ((names.map dz).length : Int)) = true›
  have hd : atX ds (at_ names p.1) < 0:=of_decide_eq_true h
  rw [hs,ao hlt,jL,if_pos hd]; rfl
 ·have hge : names.length≤p.1:=by simpa using h
  have e : p.2.take p.1 = ((names.take p.1).map (atX ds)).map bJ:=by rw [List.take_of_length_le (by rw [hr]; simp; omega),hr,List.map_map]; rfl
  rw [hs,List.drop_eq_nil_of_le hge]
  show AV.tup [(false,[.d (.sl 1 8 (p.2.take p.1))]),_] = _
  rw [e]; rfl
theorem Py(l : List Val)(ks : List Int)(hn : ks.length≤1000)(hks : ∀ i,i < ks.length→0≤at_ ks i∧(at_ ks i).toNat < l.length) : CallA Tryz.prog 152 [.one (.d (aG l)),.one (.d (aM ks))] [] (.one (.d (aG (bF l ks)))) []:=by
 refine enter af Tryz.func152 rfl (by decide +kernel) rfl fun hok w0 σ0 φ0 M=>?_
 clear hok
 repeat' (first|(refine h1H ?_; (refine h7H ?_; refine fi au 10 J J J (bO (n:=ks.length) J J J J J (by simp) (by simp) (by omega) (Nat.le_of_ble_eq_true J)) J J ?_))|(refine h1H ?_; (refine tt ?_; refine s_e au J J J (ch J J J J J (hks _ wB).1 (fy (hks _ wB).2)) ?_))|(refine h4H ?_; refine bf (bq (dl:=[10]) J) (bH ?_))|refine wG ?_|(refine h4H ?_; first|refine ah J (fun h=>?_) (fun h=>?_)|refine ca 3 J [(0,_),(5,_),(11,_),(12,_)] (q4Q J J J J) (fun (p : Nat×List Val×List (List D))=>[(13,.one (.d (.int .i64 (p.1 : Int))))]) (fun (p : Nat×List Val×List (List D))=>[(10,.row 4 40 p.2.2)]) (fun (p : Nat×List Val×List (List D))=>p.1≤ks.length∧p.2.2 = p.2.1.map ab∧p.2.2.length = ks.length∧p.2.1 = mO (bF l ks) ⟨0,0,0,[]⟩ p.1) (fun (p : Nat×List Val×List (List D))=>ks.length - p.1) (0,List.replicate ks.length ⟨0,0,0,[]⟩,List.replicate ks.length [.int .i64 0,.int .i64 0,.int .i64 0,.str []]) (q1Q J) wK ?_ (fun p ⟨hk,hr,hrl,hx⟩=>?_))|(show Exists _; refine Exists.intro ((p.1 + 1,p.2.1.set p.1 (at_ l (at_ ks p.1).toNat),p.2.2.set p.1 [.int .i64 (at_ l (at_ ks p.1).toNat).kind,.int .i64 (at_ l (at_ ks p.1).toNat).num,.int .i64 (at_ l (at_ ks p.1).toNat).den,.str (at_ l (at_ ks p.1).toNat).str])) ⟨?_,?_,wK,(q1Q J),(q4Q J J J J)⟩))
 ·exact ⟨Nat.zero_le _,by simp [ab],by simp,by rw [xb]; simp [bF]⟩
 ·have hlt : p.1 < ks.length:=by simpa using h
  refine ⟨hlt,?_,by simp [hrl],?_⟩
  ·show p.2.2.set p.1 _ = List.map ab (p.2.1.set p.1 _)
   rw [hr,List.map_set]; rfl
  ·show p.2.1.set p.1 _ = mO (bF l ks) ⟨0,0,0,[]⟩ (p.1 + 1)
   rw [hx,← xa (by rw [eG]; exact hlt),oH hlt]
 ·have hlt : p.1 < ks.length:=by simpa using h
  show ks.length - (p.1 + 1) < ks.length - p.1
  omega
 ·have hge : ks.length≤p.1:=by simpa using h
  have e : p.2.2.take ks.length = (bF l ks).map ab:=by
   rw [List.take_of_length_le (by omega),hr,hx,show p.1 = (bF l ks).length by rw [eG]; omega,ze]
  show AV.one (AC.d (.sl 4 40 (p.2.2.take ks.length))) = _
  rw [e]; rfl
theorem Pz(l : List Attr)(ks : List Int)(hn : ks.length≤1000)(hks : ∀ i,i < ks.length→0≤at_ ks i∧(at_ ks i).toNat < l.length) : CallA Tryz.prog 153 [.one (.d (ax l)),.one (.d (aM ks))] [] (.one (.d (ax (bF l ks)))) []:=by
 refine enter af Tryz.func153 rfl (by decide +kernel) rfl fun hok w0 σ0 φ0 M=>?_
 clear hok
 repeat' (first|(refine h1H ?_; (refine h7H ?_; refine fi au 10 J J J (bO (n:=ks.length) J J J J J (by simp) (by simp) (by omega) (Nat.le_of_ble_eq_true J)) J J ?_))|(refine h1H ?_; (refine tt ?_; refine s_e au J J J (ch J J J J J (hks _ wB).1 (fy (hks _ wB).2)) ?_))|(refine h4H ?_; refine bf (bq (dl:=[10]) J) (bH ?_))|refine wG ?_|(refine h4H ?_; first|refine ah J (fun h=>?_) (fun h=>?_)|refine ca 3 J [(0,_),(5,_),(11,_),(12,_)] (q4Q J J J J) (fun (p : Nat×List Attr×List (List D))=>[(13,.one (.d (.int .i64 (p.1 : Int))))]) (fun (p : Nat×List Attr×List (List D))=>[(10,.row 2 24 p.2.2)]) (fun (p : Nat×List Attr×List (List D))=>p.1≤ks.length∧p.2.2 = p.2.1.map aX∧p.2.2.length = ks.length∧p.2.1 = mO (bF l ks) ⟨[],0⟩ p.1) (fun (p : Nat×List Attr×List (List D))=>ks.length - p.1) (0,List.replicate ks.length ⟨[],0⟩,List.replicate ks.length [.str [],.int .i64 0]) (q1Q J) wK ?_ (fun p ⟨hk,hr,hrl,hx⟩=>?_))|(show Exists _; refine Exists.intro ((p.1 + 1,p.2.1.set p.1 (at_ l (at_ ks p.1).toNat),p.2.2.set p.1 [.str (at_ l (at_ ks p.1).toNat).name,.int .i64 (at_ l (at_ ks p.1).toNat).type])) ⟨?_,?_,wK,(q1Q J),(q4Q J J J J)⟩))
 ·exact ⟨Nat.zero_le _,by simp [aX],by simp,by rw [xb]; simp [bF]⟩
 ·have hlt : p.1 < ks.length:=by simpa using h
  refine ⟨hlt,?_,by simp [hrl],?_⟩
  ·show p.2.2.set p.1 _ = List.map aX (p.2.1.set p.1 _)
   rw [hr,List.map_set]; rfl
  ·show p.2.1.set p.1 _ = mO (bF l ks) ⟨[],0⟩ (p.1 + 1)
   rw [hx,← xa (by rw [eG]; exact hlt),oH hlt]
 ·have hlt : p.1 < ks.length:=by simpa using h
  show ks.length - (p.1 + 1) < ks.length - p.1
  omega
 ·have hge : ks.length≤p.1:=by simpa using h
  have e : p.2.2.take ks.length = (bF l ks).map aX:=by
   rw [List.take_of_length_le (by omega),hr,hx,show p.1 = (bF l ks).length by rw [eG]; omega,ze]
  show AV.one (AC.d (.sl 2 24 (p.2.2.take ks.length))) = _
  rw [e]; rfl
theorem Nu(ds : List Attr)(names : List (List UInt8))(hn : names.length≤1048576)(h : ep ds [] names = none) : CallA Tryz.prog 150 [.one (.d (ax ds)),.one (.d (kQ names)),.one (.d (.fn 151 []))] [] (.tup [(false,[.d .nil]),(false,[.d (.bool false)])]) []:=by
 have h1:=KY ds names hn
 rw [h] at h1; exact h1
theorem Nv(ds : List Attr)(names : List (List UInt8))(hn : names.length≤1048576)(ks : List Int)(h : ep ds [] names = some ks) : CallA Tryz.prog 150 [.one (.d (ax ds)),.one (.d (kQ names)),.one (.d (.fn 151 []))] [] (.tup [(false,[.d (aM ks)]),(false,[.d (.bool true)])]) []:=by
 have h1:=KY ds names hn
 rw [h] at h1; exact h1
theorem BR{ats : List Attr}{n : List UInt8}(h : ¬ atX ats n < 0) : 0≤atX ats n∧(atX ats n).toNat < ats.length:=by
 obtain ⟨k,h1,h2,_⟩:=kR h
 unfold atX; omega
structure SelK (ats : List Attr) (names : List (List UInt8)) (ks : List Int) : Prop where
 eq : ks = names.map (atX ats)
 rng : ∀ i,i < ks.length→0≤at_ ks i∧(at_ ks i).toNat < ats.length
 few : ks.length≤ats.length
theorem Jl{ats : List Attr}{names : List (List UInt8)}{ks : List Int}(h : ep ats [] names = some ks) : SelK ats names ks:=by
 obtain ⟨e1,e2,e3⟩:=BQ h
 simp only [List.nil_append] at e1
 have hr : ∀ k∈ks,0≤k∧k.toNat < ats.length:=fun k hk=>by
  rw [e1] at hk
  obtain ⟨n,hn,rfl⟩:=List.mem_map.1 hk
  exact BR (e2 n hn)
 refine ⟨e1,fun i hi=>hr _ (bT hi),?_⟩
 have hn : (ks.map Int.toNat).Nodup:=by
  have h4:=e3 (by simp)
  clear e1 e3 h
  induction ks with
  | nil=>simp
  | cons x r ih =>
    rw [List.nodup_cons] at h4
    rw [List.map_cons,List.nodup_cons]
    refine ⟨fun hm=>?_,ih (fun k hk=>hr k (List.mem_cons_of_mem _ hk)) h4.2⟩
    obtain ⟨y,hy,he⟩:=List.mem_map.1 hm
    have h5:=(hr x List.mem_cons_self).1
    have h6:=(hr y (List.mem_cons_of_mem _ hy)).1
    exact h4.1 (by rw [show x = y by omega]; exact hy)
 have h7:=uz hn (m:=ats.length) fun x hx=>by
  obtain ⟨k,hk,rfl⟩:=List.mem_map.1 hx
  exact (hr k hk).2
 simpa using h7
theorem pA(a : Arr)(names : List (List UInt8)) :
  ((!bD [a]) = true∧fN a names = (none,2)) ∨
  ((!bD [a]) = false∧(((names.map dz).length : Int) == 0) = true∧fN a names = (none,2)) ∨
  ((!bD [a]) = false∧(((names.map dz).length : Int) == 0) = false∧ep a.attrs [] names = none∧fN a names = (none,11)) ∨
  ((!bD [a]) = false∧(((names.map dz).length : Int) == 0) = false∧∃ ks,ep a.attrs [] names = some ks∧SelK a.attrs names ks∧OkA a.dims a.attrs a.cells∧fN a names = (some ⟨a.dims,bF a.attrs ks,bz (a.cells.map (pjC ks))⟩,0)):=by
 by_cases hc : gf a = 0
 rotate_left
 ·exact .inl ⟨by simp [bD,hc],by unfold fN; rw [if_pos (.inl hc)]⟩
 have hv : (!bD [a]) = false:=by simp [bD,hc]
 refine .inr ?_
 by_cases h2 : names.length = 0
 ·exact .inl ⟨hv,by simp [h2],by unfold fN; rw [if_pos (.inr h2)]⟩
 have hb : (((names.map dz).length : Int) == 0) = false:=by simpa using h2
 refine .inr ?_
 have hg : ¬ (gf a≠0∨names.length = 0):=by rintro (h | h); exact h hc; exact h2 h
 cases hs : ep a.attrs [] names with
 | none=>exact .inl ⟨hv,hb,rfl,by unfold fN; rw [if_neg hg,hs]⟩
 | some ks =>
   refine .inr ⟨hv,hb,ks,rfl,Jl hs,okA hc,?_⟩
   unfold fN
   rw [if_neg hg,hs]
   simp only [jx]
   rw [if_neg (by rw [List.length_map]; have:=(okA hc).few; omega)]
theorem PA(ds : List Dim)(ats : List Attr)(cs : List Cell)(ys : List (List D))(hd : cs.Pairwise bZ)(hf : cs.length≤4096)(hy : ys = cs.map aD) : CallA Tryz.prog 99 [.one (.d (aF ds)),.one (.d (ax ats)),.one (.d (.sl 2 48 ys))] [] (.tup [(true,[.d (aF ds),.d (ax ats),.d (aO (bz cs))]),(false,[.d (.int .i64 0)])]) [] :=
 KG ds ats cs _ ys hd hf rfl hy
set_option maxHeartbeats 4000000 in
theorem c50(a : Arr)(names : List (List UInt8))(hnn : names.length≤1048576) : CallA Tryz.prog 50 [fa a,.one (.d (kQ names))] [] (jw (fN a names)) []:=by
 unfold fa
 refine enter af Tryz.func50 rfl (by decide +kernel) rfl fun hok w0 σ0 φ0 M=>?_
 clear hok
 rcases pA a names with ⟨hv,e⟩ | ⟨hv,hb1,e⟩ | ⟨hv,hb1,hs,e⟩ | ⟨hv,hb1,ks,hs,hK,hA,e⟩
 all_goals rw [e]
 rotate_right
 have hcn:=hA.few
 have ha6:=(cH hA.sch).2.2.1
 have hkn : ks.length≤1000:=by have:=hK.few; omega
 have hkc : ∀ j,j < a.cells.length→∀ i,i < ks.length→0≤at_ ks i∧(at_ ks i).toNat < (at_ a.cells j).vals.length:=fun j hj i hi=>by
  rw [(cellF_ok.1 (hA.cel _ (bT hj))).2.1]; exact hK.rng i hi
 have hdf : (a.cells.map (pjC ks)).Pairwise bZ:=List.pairwise_map.2 ((cu hA.srt).imp fun h=>h)
 repeat' (first|(refine h1H ?_; (refine h0H ?_; first|refine gx [2] J J J J J J J J J (c96 [a]) J ?_|refine aa J J J J J J J J (Nu a.attrs names hnn (by assumption)) J ?_|refine az 16 J J J J J J J J (Nv a.attrs names hnn _ hs) J J J ?_))|(refine h3H ?_; (refine h2H ?_; first|refine bh 16 J J J J J J J J (Py (at_ a.cells (p.1 : Int).toNat).vals ks hkn (hkc _ wB)) J J ?_|refine bh 16 J J J J J J J J (Pz a.attrs ks hkn hK.rng) J J ?_|refine oD 16 [10] J J J J J J J J J (PA a.dims (bF a.attrs ks) (a.cells.map (pjC ks)) _ hdf (by rw [List.length_map]; omega) (by rw [hr,List.take_of_length_le (by simp; omega),List.take_of_length_le wB,List.map_map]; rfl)) J J ?_))|refine wG ?_|(refine h4H ?_; first|refine ah J (fun h=>?_) (fun h=>?_)|refine dX 8 J (dT (s:=8) (id:=10) (k:=2) (b:=48) J J J J) [(2,_),(4,_),(6,_),(32,_),(33,_)] (q5Q J J J J J) (fun (bN : Bool×Bool) (p : Nat×List (List D))=>[(8,.one (.own (nmA bN) p.1)),(34,.one (.d (.int .i64 (p.1 : Int))))]) (fun (bN : Bool×Bool) (p : Nat×List (List D))=>[((nmA bN),.row 2 48 p.2),(0,.box [.d (aF a.dims),.d (ax a.attrs),.d (aO a.cells)]),(1,.box [.d .nil,.d .nil,.d .nil])]) (fun (p : Nat×List (List D))=>p.1≤a.cells.length∧p.2 = (a.cells.take p.1).map (fun c=>aD (pjC ks c))) (fun (p : Nat×List (List D))=>a.cells.length - p.1) (0,[]) (q2Q J J) wK (fun b y=>by obtain ⟨b1,b2⟩:=b; cases b1 <;> cases b2 <;> first|exact Imp.refl _|exact dY qN (by kernel_rfl)) ?_ (fun p ⟨hk,hr⟩=>?_))|(show Exists _; refine Exists.intro ((p.1 + 1,p.2.take p.1 ++ [aD (pjC ks (at_ a.cells p.1))])) (Exists.intro (true,false) ⟨?_,?_,wK,(q2Q J J),(q5Q J J J J J)⟩)))
 all_goals first
  | rfl
  | exact ⟨Nat.zero_le _,rfl⟩
  | (have hlt : p.1 < a.cells.length:=by simpa using h
     exact ⟨hlt,jM (fun c=>aD (pjC ks c)) a.cells hr hlt⟩)
  | (have hlt : p.1 < a.cells.length:=by simpa using h
     show a.cells.length - (p.1 + 1) < a.cells.length - p.1
     omega)
  | skip
theorem c90 : ∀ (m : Nat) (s : Scalar) (z : Int),z = m→m≤12→CallA Tryz.prog 90 [de s,.one (.d (.int .i64 z))] [] (.one (.d (.int .i64 (c3 m s)))) []
 | 0,s,z,hz,hm=>by
   subst hz
   refine enter af Tryz.func90 rfl (by decide +kernel) rfl fun hok w0 σ0 φ0 M=>?_
   clear hok
   repeat' (first|refine wG ?_)
   all_goals (try (((simp_all [c3,ao,List.drop_eq_nil_of_le]) <;> exact wL); done))
 | m + 1,s,z,hz,hm=>by
   have ih:=fun (s : Scalar) (z : Int) (hz : z = m)=>c90 m s z hz (by omega)
   refine enter af Tryz.func90 rfl (by decide +kernel) rfl fun hok w0 σ0 φ0 M=>?_
   have h1:=(OkD.sl (hok.1 (.d (cI s.args)) (by simp))).1; clear hok; simp only [List.length_map] at h1
   have hf:=fun k=>pS (f:=c3 m) (B:=m + 1) (fun x=>by have:=re m x; omega) (s.args.take k) 0 (by omega) (by omega)
   repeat' (first|(refine h1H ?_; (refine h0H ?_; refine aa J J J J J J J J (ih _ _ (by omega)) J ?_))|refine wG ?_|(refine h4H ?_; first|refine ah J (fun h=>?_) (fun h=>?_)|refine aH 5 J [(1,_),(2,_)] (q2Q J J) (fun (p : Nat×Int)=>[(5,.one (.d (.int .i64 p.2))),(6,.one (.d (.int .i64 (p.1 : Int))))]) (fun (p : Nat×Int)=>p.1≤s.args.length∧p.2 = (s.args.take p.1).foldl (fun d x=>max d (c3 m x)) 0) (fun (p : Nat×Int)=>s.args.length - p.1) (0,0) (q2Q J J) ?_ (fun p ⟨hk,hd⟩=>?_))|(show Exists _; refine Exists.intro ((p.1 + 1,max p.2 (c3 m (at_ s.args p.1)))) ⟨?_,?_,wK,(q2Q J J),(q2Q J J)⟩))
   all_goals (try (((simp_all [c3,FY,ao,List.drop_eq_nil_of_le]) <;> exact wL); done))
   ·have hw:=hf p.1
    rw [← hd] at hw
    have hl : s.args.length≤p.1:=by simpa using h
    rw [gJ (by omega) (by omega),hd,List.take_of_length_le hl]
    rfl
mutual
def dm : Scalar→Int→Int
 | .mk _ _ _ a,most=>dA a 1 most
def dA : List Scalar→Int→Int→Int
 | [],n,_=>n
 | x::r,n,most=>if n≤most then dA r (n + dm x (most - n)) most else n
end
theorem rj : ∀ {s : Scalar} {most : Int},dm s most = dA s.args 1 most
 | .mk _ _ _ a,most=>by simp [dm,Scalar.args]
theorem qo{most : Int} : ∀ (l : List Scalar),(∀ x∈l,∀ m,0≤m→1≤dm x m∧dm x m≤m + 1)→∀ n,1≤n→n≤most + 1→1≤dA l n most∧dA l n most≤most + 1
 | [],_,n,h1,h2=>by simp [dA,h1,h2]
 | x::r,h,n,h1,h2=>by
   simp only [dA]
   split
   ·have:=h x (by simp) (most - n) (by omega)
    exact qo r (fun y hy=>h y (by simp [hy])) _ (by omega) (by omega)
   ·exact ⟨h1,h2⟩
theorem rk(s : Scalar) : ∀ m,0≤m→1≤dm s m∧dm s m≤m + 1:=by
 induction s using Scalar.ind with
 | h s ih =>
   intro m hm
   rw [rj]
   exact qo s.args ih 1 (by omega) (by omega)
theorem c91(s : Scalar) : ∀ (z : Int),0≤z→z≤64→CallA Tryz.prog 91 [de s,.one (.d (.int .i64 z))] [] (.one (.d (.int .i64 (dm s z)))) []:=by
 induction s using Scalar.ind with
 | h s ih =>
   intro z hz hz2
   refine enter af Tryz.func91 rfl (by decide +kernel) rfl fun hok w0 σ0 φ0 M=>?_
   have h1:=(OkD.sl (hok.1 (.d (cI s.args)) (by simp))).1; clear hok; simp only [List.length_map] at h1
   repeat' (first|(refine h1H ?_; (refine h0H ?_; refine aa J J J J J J J J (ih _ (bT wB) _ wB wB) J ?_))|refine wG ?_|(refine h1H ?_; (refine h5H ?_; refine aJ J J J J (fun h=>?_) (fun h=>?_)))|(refine h4H ?_; first|refine ah J (fun h=>?_) (fun h=>?_)|refine aH 3 J [(1,_),(2,_)] (q2Q J J) (fun (p : Nat×Int)=>[(5,.one (.d (.int .i64 p.2))),(6,.one (.d (.int .i64 (p.1 : Int))))]) (fun (p : Nat×Int)=>p.1≤s.args.length∧1≤p.2∧p.2≤z + 1∧dm s z = dA (s.args.drop p.1) p.2 z) (fun (p : Nat×Int)=>s.args.length - p.1) (0,1) (q2Q J J) ?_ (fun p ⟨hk,hn,hn2,hs⟩=>?_))|(show Exists _; refine Exists.intro ((p.1 + 1,IntKind.i64.wrap (p.2 + dm (at_ s.args p.1) (z - p.2)))) ⟨?_,?_,wK,(q2Q J J),(q2Q J J)⟩))
   all_goals (try (((simp_all [rj,dA,ao,List.drop_eq_nil_of_le]) <;> exact wL); done))
   ·rename_i hlt
    have hk' : p.1 < s.args.length:=by simpa using hlt
    have hle : p.2≤z:=by simpa using h
    have hr:=rk (at_ s.args p.1) (z - p.2) (by omega)
    rw [gJ (by omega) (by omega)]
    refine ⟨by show p.1 + 1≤_; omega,by show 1≤p.2 + _; omega,by show p.2 + _≤_; omega,?_⟩
    rw [hs,ao hk']
    simp only [dA,hle,if_true]
theorem Qn(f : FuncId)(caps : List D)(p : Scalar→Bool)(hp : ∀ d : Scalar,CallA Tryz.prog f ([de d] ++ caps.map fun x=>.one (.d x)) [] (.one (.d (.bool (p d)))) [])(l : List Scalar) :
  CallA Tryz.prog 263 [.one (.d (cI l)),.one (.d (.fn f caps))] [] (.one (.d (.int .i64 (aL p l 0)))) []:=by
 refine enter af Tryz.func263 rfl (by decide +kernel) rfl fun hok w0 σ0 φ0 M=>?_
 have h1:=hok.1.sl; clear hok; simp only [List.length_map] at h1; replace h1:=h1.1
 repeat' (first|(refine h1H ?_; (refine h0H ?_; refine aa J J J J J J J J (hp _) J ?_))|refine wG ?_|(refine h4H ?_; first|refine ah J (fun h=>?_) (fun h=>?_)|refine aH 2 J [(0,_),(1,_),(7,_)] (q3Q J J J) (fun (k : Nat)=>[(8,.one (.d (.int .i64 k)))]) (fun (k : Nat)=>k≤l.length∧aL p l 0 = aL p (l.drop k) k) (fun (k : Nat)=>l.length - k) 0 (q1Q J) ?_ (fun k ⟨hk,hs⟩=>?_))|(show Exists _; refine Exists.intro (k + 1) ⟨?_,?_,wK,(q1Q J),(q3Q J J J)⟩))
 all_goals (try (((simp_all [aL,ao,List.drop_eq_nil_of_le]) <;> exact wL); done))
theorem B4{α : Type}{p : α→Bool} : ∀ {l : List α} {k : Nat},decide (0≤aL p l k) = l.any p
 | [],k=>by simp [aL]
 | x::r,k=>by
   have ih:=B4 (p:=p) (l:=r) (k:=k + 1)
   simp only [aL,List.any_cons,← ih]
   by_cases hx : p x = true <;> simp [hx]
theorem Qo(f : FuncId)(caps : List D)(p : Scalar→Bool)(hp : ∀ d : Scalar,CallA Tryz.prog f ([de d] ++ caps.map fun x=>.one (.d x)) [] (.one (.d (.bool (p d)))) [])(l : List Scalar) :
  CallA Tryz.prog 222 [.one (.d (cI l)),.one (.d (.fn f caps))] [] (.one (.d (.bool (l.any p)))) []:=by
 refine enter af Tryz.func222 rfl (by decide +kernel) rfl fun hok w0 σ0 φ0 M=>?_
 clear hok
 repeat' (first|(refine h1H ?_; (refine h0H ?_; refine aa J J J J J J J J (Qn f caps p hp _) J ?_))|refine wG ?_)
 all_goals (rw [← B4 (k:=0)])
def iV : Nat→Scalar→Bool
 | 0,_=>true
 | m + 1,s=>s.args.any (iV m)
theorem Qp(m : Nat)(hm : m≤12)(hd : ∀ s z,z = (m : Int)→CallA Tryz.prog 172 [de s,.one (.d (.int .i64 z))] [] (.one (.d (.bool (iV m s)))) [])(s : Scalar)(y : Int)(hy : y = m + 1) :
  CallA Tryz.prog 223 [de s,.one (.d (.ptr [.int .i64 y]))] [] (.one (.d (.bool (iV m s)))) []:=by
 refine enter af Tryz.func223 rfl (by decide +kernel) rfl fun hok w0 σ0 φ0 M=>?_
 clear hok
 repeat' (first|(refine h1H ?_; (refine h0H ?_; refine aa J J J J J J J J (hd _ _ (by omega)) J ?_))|refine wG ?_)
 all_goals (try (((simp_all [ao,List.drop_eq_nil_of_le]) <;> exact wL); done))
theorem LD : ∀ (m : Nat) (s : Scalar) (z : Int),z = m→m≤12→CallA Tryz.prog 172 [de s,.one (.d (.int .i64 z))] [] (.one (.d (.bool (iV m s)))) []
 | 0,s,z,hz,hm=>by
   subst hz
   refine enter af Tryz.func172 rfl (by decide +kernel) rfl fun hok w0 σ0 φ0 M=>?_
   clear hok
   repeat' (first|refine wG ?_)
   all_goals (try (((simp_all [iV,ao,List.drop_eq_nil_of_le]) <;> exact wL); done))
 | m + 1,s,z,hz,hm=>by
   have hz : z = m + 1:=by omega
   refine enter af Tryz.func172 rfl (by decide +kernel) rfl fun hok w0 σ0 φ0 M=>?_
   clear hok
   repeat' (first|(refine h1H ?_; (refine h0H ?_; refine aa J J J J J J J J (Qo _ _ (iV m) (fun d=>Qp m (by omega) (fun s z hz=>LD m s z hz (by omega)) d _ hz) _) J ?_))|refine wG ?_|(refine h1H ?_; (refine h5H ?_; refine aJ J J J J (fun h=>?_) (fun h=>?_))))
   all_goals (try (((simp_all [iV,ao,List.drop_eq_nil_of_le]) <;> exact wL); done))
def Mx(n : Int) : List D:=[.int .u32 n]
def dh(l : List Int) : D:=.sl 1 4 (l.map Mx)
def cJ(z : Int) : List Int:=if z = 0 then [] else if z < 1000000000 then [z] else [z % 1000000000,z / 1000000000]
theorem Hz(l : List Int)(i : Nat)(h : ∀ x∈l,0≤x∧x < 1000000000) : CallA Tryz.prog 342 [.one (.d (dh l)),.one (.d (.int .i64 i))] [] (.one (.d (.int .u64 (at_ l i)))) []:=by
 refine enter af Tryz.func342 rfl (by decide +kernel) rfl fun hok w0 σ0 φ0 M=>?_
 clear hok
 have hb : i < l.length→0≤at_ l i∧at_ l i < 1000000000:=fun hi=>h _ (bT hi)
 repeat' (first|refine wG ?_|(refine h4H ?_; refine ah J (fun h=>?_) (fun h=>?_)))
 ·have hi : i < l.length:=by simpa using h
  have:=hb hi
  show AV.one (.d (.int .u64 (IntKind.u64.wrap (at_ l i)))) = _
  rw [gP (by omega) (by omega)]
 ·have hi : l.length≤i:=by simpa using h
  simp [at_,List.getD_eq_getElem?_getD,hi]
theorem vR(z : Int)(h0 : 0≤z)(h1 : z < 1000000000000000000) : CallA Tryz.prog 268 [.one (.d (.int .u64 z))] [] (.one (.d (dh (cJ z)))) []:=by
 refine enter af Tryz.func268 rfl (by decide +kernel) rfl fun hok w0 σ0 φ0 M=>?_
 clear hok
 repeat' (first|(refine h1H ?_; (refine wu ?_; refine s_e au J J J (gC J J J J (by omega) (by omega)) ?_))|(refine h1H ?_; (refine qP ?_; refine s_e au J J J (eN J J J J (by omega) (by omega) (gP (by omega) (by omega))) ?_))|(refine h4H ?_; first|refine bf (bq (dl:=[3]) J) (bH ?_)|refine bf (bq (dl:=[1]) J) (bH ?_)|refine bf (kK (s:=2) (k:=1) (b:=4) J) (bH ?_))|refine wG ?_|(refine h4H ?_; first|refine ah J (fun h=>?_) (fun h=>?_)|refine qV 2 J 3 ?_))
 all_goals (try simp only [decide_eq_true_eq,decide_eq_false_iff_not] at *)
 ·omega
 ·have e : cJ z = [z % 1000000000,z / 1000000000 % 1000000000]:=by
   have : z / 1000000000 % 1000000000 = z / 1000000000:=by omega
   rw [this]; unfold cJ; rw [if_neg (by omega),if_neg (by omega)]
  rw [e]; rfl
 ·have e : cJ z = [z % 1000000000]:=by
   have : z % 1000000000 = z:=by omega
   rw [this]; unfold cJ; rw [if_neg (by omega),if_pos (by omega)]
  rw [e]; rfl
 ·have e : cJ z = []:=by unfold cJ; rw [if_pos (by omega)]
  rw [e]; rfl
theorem Hx{z : Int}(h0 : 0≤z)(h1 : z < 1000000000000000000) : ∀ x∈cJ z,0≤x∧x < 1000000000:=by
 intro x hx
 unfold cJ at hx
 split at hx
 ·simp at hx
 ·split at hx
  ·simp at hx; omega
  ·simp at hx; omega
theorem BY{z : Int}(h0 : 0≤z)(h1 : z < 1000000000000000000) : at_ (cJ z) 0 + 1000000000 * at_ (cJ z) 1 = z∧0≤at_ (cJ z) 0∧at_ (cJ z) 0 < 1000000000∧0≤at_ (cJ z) 1∧at_ (cJ z) 1 < 1000000000:=by
 unfold cJ
 split
 ·rename_i h; subst h; exact ⟨rfl,by decide,by decide,by decide,by decide⟩
 ·split
  ·show z + 1000000000 * 0 = z∧0≤z∧z < 1000000000∧(0 : Int)≤0∧(0 : Int) < 1000000000
   omega
  ·show z % 1000000000 + 1000000000 * (z / 1000000000) = z∧0≤z % 1000000000∧z % 1000000000 < 1000000000∧0≤z / 1000000000∧z / 1000000000 < 1000000000
   omega
theorem tC{z : Int} : (cJ z).length≤2:=by
 unfold cJ
 split
 ·simp
 ·split <;> simp
theorem Hy{z : Int} : 0 < (cJ z).length↔z≠0:=by
 unfold cJ
 split
 ·simp_all
 ·split <;> simp_all
theorem Ll(z : Int)(h0 : 0≤z)(h1 : z < 1000000000000000000) : CallA Tryz.prog 343 [.one (.d (dh (cJ z)))] [] (.one (.d (.int .u64 z))) []:=by
 refine enter af Tryz.func343 rfl (by decide +kernel) rfl fun hok w0 σ0 φ0 M=>?_
 clear hok
 have hm:=Hx h0 h1
 obtain ⟨he,ha,hb,hc,hd⟩:=BY h0 h1
 repeat' (first|(refine h1H ?_; (refine h0H ?_; first|refine aa J J J J J J J J (Hz _ 0 hm) J ?_|refine aa J J J J J J J J (Hz _ 1 hm) J ?_))|refine wG ?_)
 all_goals (rw [he])
theorem HA{n : Int}(h0 : -1099511627776≤n)(h : n < 0) : IntKind.u64.wrap (0 - IntKind.u64.wrap n) = -n:=by
 simp only [IntKind.wrap,IntKind.signed,IntKind.bits,Bool.false_and,Bool.false_eq_true,if_false]
 omega
theorem Lm(n : Int)(h0 : -1099511627776≤n)(h1 : n≤1099511627776) : CallA Tryz.prog 267 [.one (.d (.int .i64 n))] [] (.one (.d (dh (cJ (max n (-n)))))) []:=by
 refine enter af Tryz.func267 rfl (by decide +kernel) rfl fun hok w0 σ0 φ0 M=>?_
 clear hok
 repeat' (first|refine wG ?_|(refine h4H ?_; refine ah J (fun h=>?_) (fun h=>?_)))
 ·have hn : n < 0:=by simpa using h
  rw [HA h0 hn]
  refine az 16 rfl rfl rfl rfl rfl rfl rfl rfl (vR (-n) (by omega) (by omega)) rfl rfl (rav':=.one (.d (dh (cJ (-n))))) rfl ?_
  repeat' (first|refine wG ?_)
  rw [show max n (-n) = -n by omega]
 ·have hn : 0≤n:=by simpa using h
  refine az 16 rfl rfl rfl rfl rfl rfl rfl rfl (vR n (by omega) (by omega)) rfl rfl (rav':=.one (.d (dh (cJ n)))) rfl ?_
  repeat' (first|refine wG ?_)
  rw [show max n (-n) = n by omega]
theorem GV{x y : Int}(hx : 0≤x)(hx1 : x < 1000000000000000000)(hy : 0 < y) : 0≤x / y∧x / y < 1000000000000000000:=by
 refine ⟨Int.ediv_nonneg hx (by omega),?_⟩
 have h1:=Int.ediv_le_self y hx
 omega
theorem xY{x y : Int}(hx : 0≤x)(hx1 : x < 1000000000000000000)(hy : 0 < y) : 0≤x % y∧x % y < 1000000000000000000:=by
 refine ⟨Int.emod_nonneg x (by omega),?_⟩
 have:=iJ hx hy
 omega
theorem Lq(x y : Int)(hx : 0≤x)(hx1 : x < 1000000000000000000)(hy : 0 < y)(hy1 : y < 1000000000000000000) : CallA Tryz.prog 287 [.one (.d (dh (cJ x))),.one (.d (dh (cJ y)))] [] (.tup [(false,[.d (dh (cJ (x / y)))]),(false,[.d (dh (cJ (x % y)))])]) []:=by
 refine enter af Tryz.func287 rfl (by decide +kernel) rfl fun hok w0 σ0 φ0 M=>?_
 clear hok
 have hl1:=tC (z:=x); have hl2:=tC (z:=y)
 have hd:=GV hx hx1 hy; have hm:=xY hx hx1 hy
 repeat' (first|(refine h1H ?_; (refine wu ?_; refine s_e au J J J (gC J J J J (by omega) (by omega)) ?_))|(refine h1H ?_; (refine qP ?_; refine s_e au J J J (eN J J J J (by omega) (by omega) (gP (by omega) (by omega))) ?_))|(refine h1H ?_; (refine h0H ?_; first|refine aa J J J J J J J J (Ll x (by omega) (by omega)) J ?_|refine aa J J J J J J J J (Ll y (by omega) (by omega)) J ?_|refine az 16 J J J J J J J J (vR (x / y) (by omega) (by omega)) J J J ?_|refine az 16 J J J J J J J J (vR (x % y) (by omega) (by omega)) J J J ?_))|refine wG ?_|(refine h1H ?_; (refine h5H ?_; refine aJ J J J J (fun h=>?_) (fun h=>?_)))|(refine h4H ?_; refine ah J (fun h=>?_) (fun h=>?_)))
 ·rfl
 ·exfalso; simp at h; omega
 ·exfalso; simp at h; omega
theorem xZ{z : Int} : (cJ z).length = 0↔z = 0:=by
 have:=Hy (z:=z)
 omega
theorem QI(x y : Int)(hx : 0≤x)(hx1 : x < 1000000000000000000)(hy : 0≤y)(hy1 : y < 1000000000000000000) : CallA Tryz.prog 266 [.one (.d (dh (cJ x))),.one (.d (dh (cJ y)))] [] (.one (.d (dh (cJ (Int.gcd x y))))) []:=by
 refine enter af Tryz.func266 rfl (by decide +kernel) rfl fun hok w0 σ0 φ0 M=>?_
 clear hok
 repeat' (first|(refine h1H ?_; (refine h0H ?_; refine az 16 J J J J J J J J (Lq p.1 p.2 wB wB wB wB) J J J ?_))|refine wG ?_|(refine h4H ?_; first|refine ah J (fun h=>?_) (fun h=>?_)|refine aH 1 J [] aZ (fun (p : Int×Int)=>[(0,.one (.d (dh (cJ p.1)))),(1,.one (.d (dh (cJ p.2))))]) (fun (p : Int×Int)=>(0≤p.1∧p.1 < 1000000000000000000)∧(0≤p.2∧p.2 < 1000000000000000000)∧((cJ p.2).length = 0↔p.2 = 0)∧Int.gcd p.1 p.2 = Int.gcd x y) (fun (p : Int×Int)=>p.2.toNat) (x,y) (q2Q J J) ?_ (fun p ⟨h1,h2,h3,h4⟩=>?_))|(show Exists _; refine Exists.intro ((p.2,p.1 % p.2)) ⟨?_,?_,wK,(q2Q J J),aZ⟩))
 ·exact ⟨⟨hx,hx1⟩,⟨hy,hy1⟩,xZ,rfl⟩
 ·have hp : p.2≠0:=by
   intro e
   have:=h3.2 e
   simp [this] at h
  refine ⟨h2,xY h1.1 h1.2 (by omega),xZ,?_⟩
  show Int.gcd p.2 (p.1 % p.2) = _
  rw [← h4]
  obtain ⟨a,ha⟩:=Int.eq_ofNat_of_zero_le h1.1
  obtain ⟨b,hb⟩:=Int.eq_ofNat_of_zero_le h2.1
  rw [ha,hb]
  show Nat.gcd b (a % b) = Nat.gcd a b
  rw [Nat.gcd_comm,← Nat.gcd_rec,Nat.gcd_comm]
 ·have hp : p.2≠0:=by
   intro e
   have:=h3.2 e
   simp [this] at h
  have h5:=Int.emod_lt_of_pos p.1 (show 0 < p.2 by omega)
  have h6:=Int.emod_nonneg p.1 hp
  show (p.1 % p.2).toNat < p.2.toNat
  omega
 ·have hp : p.2 = 0:=h3.1 (by simpa using h)
  rw [hp] at h4
  have : ((Int.gcd p.1 0 : Nat) : Int) = p.1:=by
   rw [Int.gcd_zero_right]; omega
  rw [← h4,this]
def wa(l : List Int) : Int:=if (l.length : Int) < 1 then -1 else if 1 < (l.length : Int) then 1 else if at_ l 0 < 1 then -1 else if 1 < at_ l 0 then 1 else 0
theorem Qt(l : List Int) : CallA Tryz.prog 265 [.one (.d (dh l)),.one (.d (dh [1]))] [] (.one (.d (.int .i64 (wa l)))) []:=by
 refine enter af Tryz.func265 rfl (by decide +kernel) rfl fun hok w0 σ0 φ0 M=>?_
 have h1:=hok.1.sl.1; clear hok; simp only [List.length_map] at h1
 repeat' (first|refine wG ?_|(refine h4H ?_; first|refine ah J (fun h=>?_) (fun h=>?_)|refine qV 6 J 3 ?_))
 all_goals (try (((simp_all [wa,ao,List.drop_eq_nil_of_le]) <;> exact wL); done))
 all_goals (try simp only [a0A,a1A,Hl,a5A,zO,zP] at *)
 all_goals (have hl : l.length = 1:=by omega)
 all_goals (obtain ⟨a,rfl⟩:=List.length_eq_one_iff.1 hl)
 all_goals (simp [wa,at_] at *; try omega)
theorem z1{g : Int}(h0 : 0≤g) : (wa (cJ g) == 0) = (g == 1):=by
 unfold cJ
 split
 ·rename_i h; subst h; rfl
 ·split
  ·rename_i h1 h2
   simp [wa,at_]
   rw [Bool.eq_iff_iff]; simp
   split <;> (try split) <;> omega
  ·rename_i h1 h2
   have : (g == 1) = false:=by simp; omega
   rw [this]; simp [wa]
theorem FZ{n d : Int}(hd : 1≤d) : Int.gcd (max n (-n)) (max d (-d)) = Nat.gcd n.natAbs d.toNat:=by
 unfold Int.gcd
 congr 1 <;> omega
theorem JG : CallA Tryz.prog 268 [.one (.d (.int .u64 1))] [] (.one (.d (dh [1]))) []:=vR 1 (by omega) (by omega)
theorem Dx(k' n d : Int)(s : List UInt8) : CallA Tryz.prog 227 [.agg [.d (.int .i64 k'),.d (.int .i64 n),.d (.int .i64 d),.d (.str s)]] [] (.one (.d (.int .i64 (if dK k' n d s then 0 else 2)))) []:=by
 refine enter af Tryz.func227 rfl (by decide +kernel) rfl fun hok w0 σ0 φ0 M=>?_
 have hl:=(hok.1 (.d (.str s)) (by simp)); replace hl:=OkD.str hl; clear hok
 repeat' (first|(refine h3H ?_; (refine h2H ?_; first|refine d_l J J (aB J J J J J J (Qt _) J) ?_|refine bh 16 J J J J J J J J (Lm _ wB wB) J J ?_|refine bh 16 J J J J J J J J (QI _ _ wB wB wB wB) J J ?_|refine bh 16 J J J J J J J J (JG) J J ?_))|refine wG ?_|(refine h1H ?_; (refine h5H ?_; refine aJ J J J J (fun h=>?_) (fun h=>?_)))|(refine h4H ?_; first|refine ah J (fun h=>?_) (fun h=>?_)|refine aH 12 J [(1,_)] (q1Q J) (fun (p : Nat×Bool)=>[(4,.one (.d (.int .i64 (p.1 : Int)))),(3,.one (.d (.bool p.2)))]) (fun (p : Nat×Bool)=>p.1≤s.length∧p.2 = ((n == 0 && (d == 0 && decide ((s.length : Int)≤16))) && (s.take p.1).all dV)) (fun (p : Nat×Bool)=>s.length - p.1) (0,_) (q2Q J J) ?_ (fun p ⟨hk,hp⟩=>?_))|(refine h3H ?_; (refine tu ?_; refine kN J J (fun h=>?_) (fun h=>?_)))|(show Exists _; refine Exists.intro ((p.1 + 1,_)) ⟨?_,?_,wK,(q2Q J J),(q1Q J)⟩))
 all_goals (try (((simp_all [dK,oC,ez,dV,ao,List.drop_eq_nil_of_le]) <;> exact wL); done))
 ·rename_i a1 a2 a3 a4 a5 a6 a7 a8
  rw [FZ (by simpa using a4),z1 (by omega)] at h
  simp_all [dK]
 ·rename_i a1 a2 a3 a4 a5 a6 a7 a8
  rw [FZ (by simpa using a4),z1 (by omega)] at h
  simp_all [dK]
 ·refine ⟨Nat.zero_le _,?_⟩
  change decide ((s.length : Int)≤16) = _
  simp_all
 ·rename_i a1 a2 a3 a4 a5 a6 a7 a8
  have hk' : p.1 < s.length:=by simpa using a7
  refine ⟨by show p.1 + 1≤_; omega,?_⟩
  change decide (((at_ s p.1).toNat : Int)≤126) = (n == 0 && (d == 0 && decide ((s.length : Int)≤16)) && (List.take (p.1 + 1) s).all dV)
  rw [ez hk',List.all_append,← Bool.and_assoc,← hp,a8]
  have h2 : (32 : Int)≤((at_ s p.1).toNat : Int):=by simpa using h
  have h' : 32≤(at_ s p.1).toNat:=by omega
  simp [dV,h']
  try omega
theorem OO(k n d : Int)(s : List UInt8)(t : Int) : CallA Tryz.prog 199 [.agg [.d (.int .i64 k),.d (.int .i64 n),.d (.int .i64 d),.d (.str s)],.one (.d (.int .i64 t))] [] (.one (.d (.bool (js k n d s t)))) []:=by
 refine enter af Tryz.func199 rfl (by decide +kernel) rfl fun hok w0 σ0 φ0 M=>?_
 clear hok
 repeat' (first|(refine h1H ?_; (refine h0H ?_; refine aa J J J J J J J J (Dx _ _ _ _) J ?_))|refine wG ?_|(refine h1H ?_; (refine h5H ?_; refine aJ J J J J (fun h=>?_) (fun h=>?_)))|(refine h4H ?_; refine ah J (fun h=>?_) (fun h=>?_)))
 all_goals (try (((simp_all [js,ao,List.drop_eq_nil_of_le]) <;> exact wL); done))
 all_goals (by_cases hk : k = 3 <;> simp_all [js,dK])
def dC(op : Int) : Int:=if 4≤op∧op≤8 then 1 else if 9≤op∧op≤21 then 2 else if op = 22 then 3 else 0
def yq(v : Val) : Bool:=v.kind == 0 && (v.num == 0 && (v.den == 0 && v.str == []))
theorem pC{v : Val} : cL [.int .i64 v.kind,.int .i64 v.num,.int .i64 v.den,.str v.str] [.int .i64 0,.int .i64 0,.int .i64 0,.str []] = yq v:=by
 simp [cL,eqD,yq]
def df(s : Scalar) : Bool :=
 if s.op = 1 then dK s.val.kind s.val.num s.val.den s.val.str && (!(s.val.kind == 0) && (s.name == [] && (s.args.length : Int) == 0))
 else if s.op = 2∨s.op = 3 then yq s.val && (s.args.length : Int) == 0
 else decide (0 < dC s.op) && (yq s.val && (s.name == [] && (s.args.length : Int) == dC s.op))
theorem PH(s : Scalar) : CallA Tryz.prog 177 [de s] [] (.one (.d (.bool (df s)))) []:=by
 refine enter af Tryz.func177 rfl (by decide +kernel) rfl fun hok w0 σ0 φ0 M=>?_
 clear hok
 repeat' (first|(refine h1H ?_; (refine h0H ?_; refine aa J J J J J J J J (Dx _ _ _ _) J ?_))|refine wG ?_|(refine h1H ?_; (refine h5H ?_; refine aJ J J J J (fun h=>?_) (fun h=>?_)))|(refine h4H ?_; refine ah J (fun h=>?_) (fun h=>?_)))
 all_goals (try rw [pC] at *)
 all_goals (try (((simp_all [df,dC,pC,ao,List.drop_eq_nil_of_le]) <;> exact wL); done))
mutual
def dc : Scalar→Bool
 | .mk o n v a=>df (.mk o n v a) && iF a
def iF : List Scalar→Bool
 | []=>true
 | x::r=>dc x && iF r
end
theorem gp : ∀ {s : Scalar},dc s = (df s && iF s.args)
 | .mk _ _ _ _=>by simp [dc,Scalar.args]
theorem c92(s : Scalar) : CallA Tryz.prog 92 [de s] [] (.one (.d (.bool (dc s)))) []:=by
 induction s using Scalar.ind with
 | h s ih =>
   refine enter af Tryz.func92 rfl (by decide +kernel) rfl fun hok w0 σ0 φ0 M=>?_
   have h1:=(OkD.sl (hok.1 (.d (cI s.args)) (by simp))).1; clear hok; simp only [List.length_map] at h1
   repeat' (first|(refine h1H ?_; (refine h0H ?_; first|refine aa J J J J J J J J (PH _) J ?_|refine aa J J J J J J J J (ih _ (bT wB)) J ?_))|refine wG ?_|(refine h4H ?_; first|refine ah J (fun h=>?_) (fun h=>?_)|refine aH 4 J [(1,_)] (q1Q J) (fun (k : Nat)=>[(3,.one (.d (.int .i64 k)))]) (fun (k : Nat)=>k≤s.args.length∧df s = true∧iF s.args = iF (s.args.drop k)) (fun (k : Nat)=>s.args.length - k) 0 (q1Q J) ?_ (fun k ⟨hk,hp,hs⟩=>?_))|(show Exists _; refine Exists.intro (k + 1) ⟨?_,?_,wK,(q1Q J),(q1Q J)⟩))
   all_goals (try (((simp_all [gp,iF,ao,List.drop_eq_nil_of_le]) <;> exact wL); done))
end Go.Proofs.YtpejdgkaapnekaaGreat
namespace Go.Proofs.YtpejdgkaapnekaaGreat
open Go Go.Abs
theorem AQ{f : Scalar→Int}{c : Int} : ∀ (l : List Scalar) (d : Int),c < l.foldl (fun d x=>max d (f x)) d↔(c < d∨∃ x∈l,c < f x)
 | [],d=>by simp
 | x::r,d=>by
   have ih:=AQ (f:=f) (c:=c) r (max d (f x))
   have hm : c < max d (f x)↔c < d∨c < f x:=by omega
   simp only [List.foldl_cons,List.mem_cons]
   rw [ih,hm]
   refine ⟨fun h=>?_,fun h=>?_⟩
   ·rcases h with (h | h) | ⟨y,hy,h⟩
    ·exact .inl h
    ·exact .inr ⟨x,.inl rfl,h⟩
    ·exact .inr ⟨y,.inr hy,h⟩
   ·rcases h with h | ⟨y,rfl | hy,h⟩
    ·exact .inl (.inl h)
    ·exact .inl (.inr h)
    ·exact .inr ⟨y,hy,h⟩
theorem qe : ∀ (m : Nat) (s : Scalar),iV m s = true↔(m : Int) < c3 m s
 | 0,s=>by simp [iV,c3]
 | m + 1,s=>by
   have h:=AQ (f:=c3 m) (c:=m) s.args 0
   simp only [iV,c3,List.any_eq_true]
   have e : (∃ x,x∈s.args∧iV m x = true)↔∃ x,x∈s.args∧(m : Int) < c3 m x:=⟨fun ⟨x,h1,h2⟩=>⟨x,h1,(qe m x).1 h2⟩,fun ⟨x,h1,h2⟩=>⟨x,h1,(qe m x).2 h2⟩⟩
   rw [e]
   refine ⟨fun h2=>?_,fun h2=>?_⟩
   ·have:=h.2 (.inr h2); omega
   ·rcases h.1 (by omega) with h3 | h3
    ·omega
    ·exact h3
mutual
def aY : Scalar→List Scalar
 | .mk o n v a=>aT a ++ [.mk o n v a]
def aT : List Scalar→List Scalar
 | []=>[]
 | x::r=>aY x ++ aT r
end
theorem dN : ∀ {s : Scalar},aY s = aT s.args ++ [s]
 | .mk _ _ _ _=>by simp [aY,Scalar.args]
theorem AR{most : Int} : ∀ {l : List Scalar} {n : Int},most < n→dA l n most = n
 | [],n,h=>by simp [dA]
 | x::r,n,h=>by simp only [dA]; rw [if_neg (by omega)]
theorem rJ{most : Int} : ∀ (l : List Scalar),(∀ x∈l,∀ m,0≤m→(((aY x).length : Int)≤m→dm x m = (aY x).length)∧(m < ((aY x).length : Int)→m < dm x m))→∀ n,1≤n→n≤most + 1 →
  (n + (aT l).length≤most→dA l n most = n + (aT l).length)∧(most < n + (aT l).length→most < dA l n most)
 | [],_,n,h1,h2=>by simp [dA,aT]
 | x::r,h,n,h1,h2=>by
   simp only [dA,aT,List.length_append]
   split
   ·rename_i hle
    obtain ⟨ha,hb⟩:=h x (by simp) (most - n) (by omega)
    have hr:=rk x (most - n) (by omega)
    have ih:=rJ (most:=most) r (fun y hy=>h y (by simp [hy])) (n + dm x (most - n)) (by omega) (by omega)
    by_cases hc : ((aY x).length : Int)≤most - n
    ·rw [ha hc] at ih ⊢
     refine ⟨fun h3=>?_,fun h3=>?_⟩
     ·rw [ih.1 (by omega)]; omega
     ·exact ih.2 (by omega)
    ·have hb':=hb (by omega)
     refine ⟨fun h3=>by omega,fun h3=>?_⟩
     rw [AR (by omega)]; omega
   ·exact ⟨fun h3=>by omega,fun h3=>by omega⟩
theorem BD(s : Scalar) : ∀ m : Int,0≤m→(((aY s).length : Int)≤m→dm s m = (aY s).length)∧(m < ((aY s).length : Int)→m < dm s m):=by
 induction s using Scalar.ind with
 | h s ih =>
   intro m hm
   have:=rJ (most:=m) s.args ih 1 (by omega) (by omega)
   rw [rj,dN]
   simp only [List.length_append,List.length_cons,List.length_nil]
   refine ⟨fun h=>?_,fun h=>this.2 (by omega)⟩
   rw [this.1 (by omega)]; omega
theorem Ey(s : Scalar) : 64 < dm s 64↔64 < ((aY s).length : Int):=by
 have h:=BD s 64 (by omega)
 refine ⟨fun h1=>?_,h.2⟩
 by_cases hc : ((aY s).length : Int)≤64
 ·rw [h.1 hc] at h1; exact h1
 ·omega
theorem vh : ∀ (l : List Scalar),(∀ x∈l,dc x = (aY x).all df)→iF l = (aT l).all df
 | [],_=>by simp [iF,aT]
 | x::r,h=>by
   simp only [iF,aT,List.all_append,h x (by simp),vh r fun y hy=>h y (by simp [hy])]
theorem xO(s : Scalar) : dc s = (aY s).all df:=by
 induction s using Scalar.ind with
 | h s ih =>
   rw [gp,dN,vh s.args ih]
   simp [Bool.and_comm]
def lR : List Scalar→Int→Bool→Int
 | [],_,r=>if r then 0 else 2
 | x::l,n,r=>if 64 < n + 1 then 9 else lR l (n + 1) (r && df x)
theorem rI : ∀ (l : List Scalar) (n : Int) (r : Bool),n≤64→(64 < n + (l.length : Int)→lR l n r = 9)∧(¬ 64 < n + (l.length : Int)→lR l n r = if r && l.all df then 0 else 2)
 | [],n,r,hn=>by
   simp only [lR,List.length_nil,List.all_nil,Bool.and_true]
   exact ⟨fun h=>absurd h (by omega),fun _=>trivial⟩
 | x::l,n,r,hn=>by
   simp only [lR,List.length_cons,List.all_cons]
   by_cases h : 64 < n + 1
   ·rw [if_pos h]
    exact ⟨fun _=>rfl,fun h2=>absurd h2 (by omega)⟩
   ·rw [if_neg h]
    have ih:=rI l (n + 1) (r && df x) (by omega)
    rw [Bool.and_assoc] at ih
    exact ⟨fun h2=>ih.1 (by omega),fun h2=>ih.2 (by omega)⟩
def fP(s : Scalar) : Int:=if iV 12 s then 10 else lR (aY s) 0 true
theorem Gw(s : Scalar) : fP s = if 12 < c3 12 s then 10 else if 64 < dm s 64 then 9 else if dc s then 0 else 2:=by
 have h1:=qe 12 s
 have h2:=Ey s
 have h3:=rI (aY s) 0 true (by omega)
 unfold fP
 rw [xO]
 by_cases hd : iV 12 s = true
 ·have hd' : 12 < c3 12 s:=h1.1 hd
  rw [if_pos hd,if_pos hd']
 ·have hd' : ¬ 12 < c3 12 s:=fun h=>hd (h1.2 h)
  rw [if_neg hd,if_neg hd']
  by_cases hc : 64 < dm s 64
  ·rw [if_pos hc]; have:=h2.1 hc; exact h3.1 (by omega)
  ·rw [if_neg hc]
   have hn : ¬ 64 < ((aY s).length : Int):=fun h=>hc (h2.2 h)
   rw [h3.2 (by omega),Bool.true_and]
end Go.Proofs.YtpejdgkaapnekaaGreat
namespace Go.Proofs.YtpejdgkaapnekaaGreat
open Go Go.Abs
attribute [local irreducible] ae OkC ar aA av aN
set_option maxRecDepth 10000
def bC{α β : Type}(F : α→β→Bool×α) : List β→α→Bool×α
 | [],a=>(true,a)
 | x::l,a=>if (F a x).1 then bC F l (F a x).2 else (false,(F a x).2)
def da{α β : Type}(F : α→β→Bool×α)(ok : α→β→Prop) : List β→α→Prop
 | [],_=>True
 | x::l,a=>ok a x∧((F a x).1 = true→da F ok l (F a x).2)
theorem fb{α β : Type}{F : α→β→Bool×α} : ∀ {l m : List β} {a : α},bC F (l ++ m) a = if (bC F l a).1 then bC F m (bC F l a).2 else bC F l a
 | [],_,_=>by simp [bC]
 | x::l,m,a=>by
   simp only [List.cons_append,bC]
   split
   ·exact fb
   ·simp
theorem nH{α β : Type}{F : α→β→Bool×α}{ok : α→β→Prop} : ∀ {l m : List β} {a : α},da F ok (l ++ m) a→da F ok l a∧((bC F l a).1 = true→da F ok m (bC F l a).2)
 | [],_,_,h=>⟨trivial,fun _=>h⟩
 | x::l,m,a,h=>by
   simp only [List.cons_append,da] at h
   simp only [da,bC]
   refine ⟨⟨h.1,fun h1=>(nH (h.2 h1)).1⟩,fun h1=>?_⟩
   by_cases hx : (F a x).1 = true
   ·rw [if_pos hx] at h1 ⊢; exact (nH (h.2 hx)).2 h1
   ·rw [if_neg hx] at h1; simp at h1
theorem sI : ∀ {l : List Scalar} {x : Scalar},aT (l ++ [x]) = aT l ++ aY x
 | [],x=>by simp [aT]
 | y::r,x=>by simp [aT,sI,List.append_assoc]
theorem Bw{l : List Scalar}{k : Nat}(h : k < l.length) : aT (l.take (k + 1)) = aT (l.take k) ++ aY (at_ l k):=by
 rw [ez h,sI]
theorem sJ{l : List Scalar}{k : Nat}(h : k < l.length) : aT (l.drop k) = aY (at_ l k) ++ aT (l.drop (k + 1)):=by
 rw [ao h]; rfl
theorem FX{α : Type}{F : α→Scalar→Bool×α}{l : List Scalar}{k : Nat}(h : k≤l.length){m : List Scalar}{a0 a : α}(hr : bC F (aT (l.take k)) a0 = (true,a)) : bC F (aT l ++ m) a0 = bC F (aT (l.drop k) ++ m) a:=by
 have e : aT l = aT (l.take k) ++ aT (l.drop k):=by
  have h2 : ∀ (x y : List Scalar),aT (x ++ y) = aT x ++ aT y:=by
   intro x
   induction x with
   | nil=>intro y; simp [aT]
   | cons c r ih=>intro y; simp [aT,ih,List.append_assoc]
  rw [← h2,List.take_append_drop]
 rw [e,List.append_assoc,fb,hr]
 simp
theorem QD{α : Type}(E : α→Sto)(hE : FamW E)(F : α→Scalar→Bool×α)(ok : α→Scalar→Prop)
  (hY : ∀ a x,ok a x→YieldA Tryz.prog 1000000 [de x] (E a) (.one (.d (.bool (F a x).1))) (E (F a x).2)) (s : Scalar) :
  ∀ a0,da F ok (aY s) a0→CallA Tryz.prog 217 [de s,.one (.yl 1000000)] (E a0) (.one (.d (.bool (bC F (aY s) a0).1))) (E (bC F (aY s) a0).2):=by
 induction s using Scalar.ind with
 | h s ih =>
   intro a0 hok0
   rw [dN] at hok0 ⊢
   obtain ⟨hok1,hok2⟩:=nH hok0
   refine enter af Tryz.func217 rfl (by decide +kernel) rfl fun hok w0 σ0 φ0 M=>?_
   have h1:=(OkD.sl (hok.1 (.d (cI s.args)) (by simp))).1; clear hok; simp only [List.length_map] at h1
   repeat' (first|(refine h1H ?_; (refine QE ?_; refine KN [] 0 (hE.big _) (hE.ins _) J J J J J J J J ?_))|refine wG ?_)
   refine Jd hE (fun (p : Nat×α)=>p.2) [(0,_)] [(1,_),(2,_),(8,_),(9,_)] (q4Q rfl rfl rfl rfl) (fun (p : Nat×α)=>[(10,.one (.d (.int .i64 (p.1 : Int))))])
    (fun p=>p.1≤s.args.length∧bC F (aT (s.args.take p.1)) a0 = (true,p.2)∧da F ok (aT (s.args.drop p.1)) p.2) (fun p=>s.args.length - p.1) (0,a0) rfl rfl (q1Q rfl) ?_ (fun p ⟨hk,hr,ho⟩=>?_)
   ·exact ⟨Nat.zero_le _,rfl,hok1⟩
   ·repeat' (first|(refine h1H ?_; (refine QF ?_; refine G7 af [(0,_)] 1 (hE.big _) (hE.ins _) J J J J J J J ?_))|refine wG ?_|(refine h4H ?_; refine ah J (fun h=>?_) (fun h=>?_)))
    ·have hk' : p.1 < s.args.length:=by simpa using h
     rw [sJ hk'] at ho
     obtain ⟨ho1,ho2⟩:=nH ho
     have hrun : bC F (aT s.args ++ [s]) a0 = if (bC F (aY (at_ s.args p.1)) p.2).1 then bC F (aT (s.args.drop (p.1 + 1)) ++ [s]) (bC F (aY (at_ s.args p.1)) p.2).2 else bC F (aY (at_ s.args p.1)) p.2:=by
      rw [FX (F:=F) hk (m:=[s]) hr,sJ hk',List.append_assoc]; exact fb
     refine B7 [(1,_),(0,_)] (ih (at_ s.args p.1) (bT hk') p.2 ho1) (hE.big _) (hE.big _) (hE.ins _) (hE.ins _) (hE.lp _) (hE.lp _) rfl rfl rfl rfl rfl rfl rfl (by simp [dp,c7,de,eC,bG,IG (hE.lp _)]) rfl rfl ?_
     repeat' (first|refine wG ?_|(refine h4H ?_; refine ah J (fun h=>?_) (fun h=>?_)))
     ·have hb' : ¬ (bC F (aY (at_ s.args p.1)) p.2).1 = true:=by simpa using h
      rw [if_neg hb'] at hrun
      refine qy [(1,_),(0,_)] (.inl rfl) rfl rfl rfl ?_ rfl (hE.big _) (hE.nd _)
      rw [hrun]
      refine ⟨?_,rfl⟩
      simp at hb'
      rw [hb']
     ·have hb' : (bC F (aY (at_ s.args p.1)) p.2).1 = true:=by simpa using h
      refine ⟨(p.1 + 1,(bC F (aY (at_ s.args p.1)) p.2).2),[(1,_),(0,_)],⟨by show p.1 + 1≤_; omega,?_,ho2 hb'⟩,by show s.args.length - (p.1 + 1) < s.args.length - p.1; omega,rfl,rfl,aj rfl aZ,aj rfl aZ,aj rfl (q3Q rfl rfl rfl)⟩
      show bC F (aT (s.args.take (p.1 + 1))) a0 = _
      rw [Bw hk',fb,hr]
      simp only [if_true]
      rw [← hb']
    ·have hk' : p.1 = s.args.length:=by
      have : ¬ p.1 < s.args.length:=by simpa using h
      omega
     rw [hk',List.take_length] at hr
     rw [hr] at hok2
     have hf : bC F (aT s.args ++ [s]) a0 = F p.2 s:=by
      rw [fb,hr]
      simp only [if_true,bC]
      split
      ·rename_i hb; rw [← hb]
      ·rename_i hb; simp at hb; rw [← hb]
     refine HS [(0,_)] (hY p.2 s (hok2 rfl).1) (hE.big _) (hE.big _) (hE.ins _) (hE.ins _) (hE.lp _) (hE.lp _) rfl rfl rfl rfl rfl rfl rfl rfl (by simp [dp,c7,de,eC,bG]) rfl rfl ?_
     repeat' (first|refine wG ?_)
     refine qy [(0,_)] (.inl rfl) rfl rfl rfl ?_ rfl (hE.big _) (hE.nd _)
     rw [hf]
     exact ⟨rfl,rfl⟩
theorem HL{α : Type}(E : α→Sto)(hE : FamW E)(F : α→Scalar→Bool×α)(ok : α→Scalar→Prop)
  (hY : ∀ a x,ok a x→YieldA Tryz.prog 1000000 [de x] (E a) (.one (.d (.bool (F a x).1))) (E (F a x).2)) (s : Scalar) (a0 : α) (h0 : da F ok (aY s) a0) :
  CallA Tryz.prog 216 [.one (.yl 1000000),.one (.d (.ptr (qU s)))] (E a0) (.tup []) (E (bC F (aY s) a0).2):=by
 refine enter af Tryz.func216 rfl (by decide +kernel) rfl fun hok w0 σ0 φ0 M=>?_
 clear hok
 repeat' (first|refine wG ?_)
 refine B7 [] (QD E hE F ok hY s a0 h0) (hE.big _) (hE.big _) (hE.ins _) (hE.ins _) (hE.lp _) (hE.lp _) rfl rfl rfl rfl rfl rfl rfl (by simp [dp,c7,de,eC,bG,IG (hE.lp _)]) rfl rfl ?_
 repeat' (first|refine wG ?_)
 exact qy [] (.inr rfl) rfl rfl rfl ⟨rfl,rfl⟩ rfl (hE.big _) (hE.nd _)
theorem HK(s : Scalar) : CallA Tryz.prog 162 [de s] [] (.one (.d (.fn 216 [.ptr (qU s)]))) []:=by
 refine enter af Tryz.func162 rfl (by decide +kernel) rfl fun hok w0 σ0 φ0 M=>?_
 clear hok
 repeat' (first|refine wG ?_)
 all_goals first | rfl | trace_state
theorem fR(op : Int) : CallA Tryz.prog 228 [.one (.d (.int .i64 op))] [] (.one (.d (.int .i64 (dC op)))) []:=by
 refine enter af Tryz.func228 rfl (by decide +kernel) rfl fun hok w0 σ0 φ0 M=>?_
 clear hok
 repeat' (first|refine wG ?_|(refine h1H ?_; (refine h5H ?_; refine aJ J J J J (fun h=>?_) (fun h=>?_)))|(refine h4H ?_; refine ah J (fun h=>?_) (fun h=>?_)))
 all_goals (try (((simp_all [dC,ao,List.drop_eq_nil_of_le]) <;> exact wL); done))
def du(t : Int) : Bool:=t == 2 || t == 3
theorem Mk(t : Int) : CallA Tryz.prog 269 [.one (.d (.int .i64 t))] [] (.one (.d (.bool (du t)))) []:=by
 refine enter af Tryz.func269 rfl (by decide +kernel) rfl fun hok w0 σ0 φ0 M=>?_
 clear hok
 repeat' (first|refine wG ?_|(refine h1H ?_; (refine h5H ?_; refine aJ J J J J (fun h=>?_) (fun h=>?_))))
 all_goals (try (((simp_all [du,ao,List.drop_eq_nil_of_le]) <;> exact wL); done))
def cv(a b : Int) : Int:=if a = b then a else if du a && du b then 3 else 0
theorem Sh(a b : Int) : CallA Tryz.prog 270 [.one (.d (.int .i64 a)),.one (.d (.int .i64 b))] [] (.one (.d (.int .i64 (cv a b)))) []:=by
 refine enter af Tryz.func270 rfl (by decide +kernel) rfl fun hok w0 σ0 φ0 M=>?_
 clear hok
 repeat' (first|(refine h1H ?_; (refine h0H ?_; refine aa J J J J J J J J (Mk _) J ?_))|refine wG ?_|(refine h1H ?_; (refine h5H ?_; refine aJ J J J J (fun h=>?_) (fun h=>?_)))|(refine h4H ?_; refine ah J (fun h=>?_) (fun h=>?_)))
 all_goals (try (((simp_all [cv,ao,List.drop_eq_nil_of_le]) <;> exact wL); done))
end Go.Proofs.YtpejdgkaapnekaaGreat
