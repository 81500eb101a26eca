import Derived.Laws.IdiomStrings
import Derived.WalkSpells
import Derived.Test.YtpejdgkaapnekaaGreatXP5
import Derived.Test.YtpejdgkaapnekaaGreatXP4
set_option linter.unusedVariables false
set_option linter.unusedSimpArgs false
set_option maxHeartbeats 1000000
namespace Go.Abs
open Go
variable {P : Program} {c : Ctx} {T : Tab} {σ : Sig} {φ : Pl} {w : World}
def wq(op : BinOp) : Option AV→Option AV→Option D
 | some (.one (.d (.int k x))),some (.one (.d (.int k' y)))=>match op with
   | .quo=>bif kEq k k' && !decide (y = 0) then some (.int k (k.wrap (x.tdiv y))) else none
   | .rem=>bif kEq k k' && !decide (y = 0) then some (.int k (x.tmod y)) else none
   | .shl=>bif !decide (y < 0) then some (.int k (k.wrap (x * 2 ^ (min y.toNat k.bits)))) else none
   | .shr=>bif !decide (y < 0) then some (.int k (x.fdiv (2 ^ (min y.toNat k.bits)))) else none
   | _=>none
 | _,_=>none
theorem iJ{x y : Int}(hx : 0≤x)(hy : 0 < y) : x % y≤x:=by
 have h1:=Int.mul_ediv_add_emod x y
 have h2:=Int.mul_nonneg (show 0≤y by omega) (Int.ediv_nonneg hx (show 0≤y by omega))
 omega
theorem Ib{k : IntKind}{x y : Int}(h : inR k x) : inR k (x.tmod y):=by
 unfold inR at *
 have hmin : k.min≤0:=by unfold IntKind.min; cases k <;> simp [IntKind.signed,IntKind.bits]
 have hmax : 0≤k.max:=by unfold IntKind.max; cases k <;> simp [IntKind.signed,IntKind.bits]
 rcases Int.le_total 0 x with h0 | h0
 ·have h1:=Int.tmod_nonneg y h0
  have h2 : x.tmod y≤x:=by
   rw [Int.tmod_eq_emod_of_nonneg h0]
   rcases Int.lt_trichotomy y 0 with hy | hy | hy
   ·have:=Int.emod_nonneg x (show y≠0 by omega)
    rw [← Int.emod_neg]
    exact iJ h0 (by omega)
   ·subst hy; simp
   ·exact iJ h0 hy
  omega
 ·obtain ⟨z,rfl⟩ : ∃ z,x = -z:=⟨-x,by omega⟩
  rw [Int.neg_tmod]
  have h1:=Int.tmod_nonneg y (show 0≤z by omega)
  have h2 : z.tmod y≤z:=by
   rw [Int.tmod_eq_emod_of_nonneg (by omega)]
   rcases Int.lt_trichotomy y 0 with hy | hy | hy
   ·rw [← Int.emod_neg]
    exact iJ (by omega) (by omega)
   ·subst hy; simp
   ·exact iJ (by omega) hy
  omega
theorem Ic{k : IntKind}{x : Int}{n : Nat}(h : inR k x) : inR k (x.fdiv (2 ^ n)):=by
 unfold inR at *
 have hmin : k.min≤0:=by unfold IntKind.min; cases k <;> simp [IntKind.signed,IntKind.bits]
 have hmax : 0≤k.max:=by unfold IntKind.max; cases k <;> simp [IntKind.signed,IntKind.bits]
 have hp : (0 : Int) < 2 ^ n:=Int.pow_pos (by omega)
 rw [Int.fdiv_eq_ediv_of_nonneg _ (by omega)]
 rcases Int.le_total 0 x with h0 | h0
 ·have h1:=Int.ediv_nonneg h0 (show (0 : Int)≤2 ^ n by omega)
  have h2:=Int.ediv_le_self (2 ^ n) h0
  omega
 ·have h1 : x≤x / 2 ^ n:=by
   rw [Int.le_ediv_iff_mul_le hp]
   have : x * 2 ^ n≤x * 1:=Int.mul_le_mul_of_nonpos_left h0 (by omega)
   omega
  have h2 : x / 2 ^ n≤0:=by
   have : x / 2 ^ n < 1:=by rw [Int.ediv_lt_iff_lt_mul hp]; omega
   omega
  omega
theorem Gv{ops : Array Oper}{o : Oper}{rest : List Oper}{st : St}{K : St→Prop}{op : BinOp}{t ty : TypeId}{x y : Operand}{d : D}
  (ho : o.op = .binOp op t x y ty) (hg : o.guard = none) (hd : aU c.n o.dst = true) (hv : wq op (ev st x) (ev st y) = some d)
  (h : ae P c ops rest ⟨bt o.dst (.one (.d d)) st.fr,st.sto⟩ K) : ae P c ops (o::rest) st K :=
 bk hg fun a w σ φ hr=>by
  unfold wq at hv
  split at hv <;> (try (simp at hv; done))
  rename_i k x' k' y' hx hy
  have h1:=RepC.d_inv (aI hr hx)
  have h2:=RepC.d_inv (aI hr hy)
  generalize hux : a.eval x = ux at h1
  generalize huy : a.eval y = uy at h2
  cases h1 with | int h1=>cases h2 with | int h2 =>
  split at hv
  ·cases hb : kEq k k' && !decide (y' = 0) <;> simp only [hb,cond_true,cond_false,reduceCtorEq,Option.some.injEq] at hv
   simp only [Bool.and_eq_true,Bool.not_eq_true',decide_eq_false_iff_not] at hb
   obtain rfl:=fQ hb.1
   subst hv
   refine ⟨_,w,_,σ,φ,?_,hr.put (v:=.one (.d (.int k (k.wrap (x'.tdiv y'))))) hd (RepC.d (.int (kD _ _))),h⟩
   simp [execOp,ho,hux,huy,bQ,binOp,Op.intDiv,hb.2]
  ·cases hb : kEq k k' && !decide (y' = 0) <;> simp only [hb,cond_true,cond_false,reduceCtorEq,Option.some.injEq] at hv
   simp only [Bool.and_eq_true,Bool.not_eq_true',decide_eq_false_iff_not] at hb
   obtain rfl:=fQ hb.1
   subst hv
   refine ⟨_,w,_,σ,φ,?_,hr.put (v:=.one (.d (.int k (x'.tmod y')))) hd (RepC.d (.int (Ib h1))),h⟩
   simp [execOp,ho,hux,huy,bQ,binOp,Op.intDiv,hb.2]
  ·cases hb : !decide (y' < 0) <;> simp only [hb,cond_true,cond_false,reduceCtorEq,Option.some.injEq] at hv
   simp only [Bool.not_eq_true',decide_eq_false_iff_not] at hb
   subst hv
   refine ⟨_,w,_,σ,φ,?_,hr.put (v:=.one (.d (.int k (k.wrap (x' * 2 ^ (min y'.toNat k.bits)))))) hd (RepC.d (.int (kD _ _))),h⟩
   simp [execOp,ho,hux,huy,bQ,binOp,Op.shift,hb]
  ·cases hb : !decide (y' < 0) <;> simp only [hb,cond_true,cond_false,reduceCtorEq,Option.some.injEq] at hv
   simp only [Bool.not_eq_true',decide_eq_false_iff_not] at hb
   subst hv
   refine ⟨_,w,_,σ,φ,?_,hr.put (v:=.one (.d (.int k (x'.fdiv (2 ^ (min y'.toNat k.bits)))))) hd (RepC.d (.int (Ic h1))),h⟩
   simp [execOp,ho,hux,huy,bQ,binOp,Op.shift,hb]
  ·simp at hv
def oR(s : List UInt8) : D:=.sl 1 1 (s.map fun b=>[.int .u8 (b.toNat : Int)])
theorem Rel.sealNew{st : St}{a : Act}(hr : Rel c st a w σ φ)(arr : Array Value)(t : TypeId)(f : Nat×Nat) :
  Rel c st a (w.alloc (.cells arr t f)) (gd σ w.heap.size arr) φ∧σ.le (gd σ w.heap.size arr):=by
 have hle : σ.le (gd σ w.heap.size arr):=rU (.inl (iO hr.inv))
 have hheap : ∀ B,B < w.heap.size→(w.alloc (.cells arr t f)).heap[B]? = w.heap[B]?:=fun B hB=>RowKit.Below.heap_alloc w _ B hB
 refine ⟨⟨Sig.le_trans hr.le hle,fun b hb=>?_,⟨fun b cs hb=>?_,fun i e hi=>?_,hr.inv.inj⟩,hr.mine,fun s v hv=>?_,hr.defers,hr.size,hr.fra.alloc _,hr.pin⟩,hle⟩
 ·by_cases e : b = w.heap.size
  ·subst e; exact .inr (.inl hr.fra.size)
  ·simp [gd,e] at hb; exact hr.fresh b hb
 ·by_cases e : b = w.heap.size
  ·subst e
   simp only [gd,if_true,Option.some.injEq] at hb
   subst hb
   exact ⟨t,f,cn w _⟩
  ·simp only [gd,e,if_false] at hb
   obtain ⟨t',f',hh⟩:=hr.inv.sig b cs hb
   exact ⟨t',f',(hheap b (Array.getElem?_eq_some_iff.1 hh).1).trans hh⟩
 ·have ho:=hr.inv.obj i e hi
  refine ho.ext (X:=fun _=>False) hle (Ext.refl _ _) (fun j hj=>hj.elim) rfl fun B cc hB=>⟨hheap B (ho.lt hB),?_⟩
  have : B≠w.heap.size:=by have:=ho.lt hB; simp only at this; omega
  simp [gd,this]
 ·obtain ⟨u,hu,hru⟩:=hr.slot s v hv
  exact ⟨u,hu,hru.ext hle (Ext.refl _ _) fun j hj=>hj.elim⟩
def nc(T : Tab)(t : TypeId) : Bool:=match look T t with | some ⟨.slice e,_,_,_⟩=>(match look T e with | some ⟨.int k,_,_,_⟩=>kEq k .u8 | _=>false) | _=>false
theorem sS(hT : ba P T){ops : Array Oper}{o : Oper}{rest : List Oper}{st : St}{K : St→Prop}{src dst : TypeId}{x : Operand}{s : List UInt8}
  (ho : o.op = .convert src dst x) (hg : o.guard = none) (hd : aU c.n o.dst = true) (ht : (gm T src && nc T dst) = true) (hx : ev st x = some (.one (.d (.str s)))) (hl : s.length≤2 ^ 47)
  (h : ae P c ops rest ⟨bt o.dst (.one (.d (oR s))) st.fr,st.sto⟩ K) : ae P c ops (o::rest) st K :=
 bk hg fun a w σ φ hr=>by
  rw [Bool.and_eq_true] at ht
  have hsrc:=rH hT ht.1
  have ht2:=ht.2
  unfold nc at ht2
  split at ht2 <;> (try (simp at ht2; done))
  rename_i e sz b z hlk
  split at ht2 <;> (try (simp at ht2; done))
  rename_i k sz2 b2 z2 hlk2
  obtain rfl:=fQ ht2
  obtain ⟨_,u,_,_,hu,_,_,_,hk,_⟩:=(hT dst _ hlk).ex
  obtain ⟨_,u2,_,_,hu2,_,_,_,hk2,_⟩:=(hT e _ hlk2).ex
  simp only [ej] at hk hk2
  subst hk hk2
  obtain ⟨hxe,h48⟩:=AL hr hx
  have hrun:=run_bytes_of_string (P:=P) w src dst e ⟨s.toArray⟩ hsrc hu hu2
  have hsize : (⟨s.toArray⟩ : ByteArray).size = s.length:=by simp [ByteArray.size]
  rw [hsize] at hrun
  have hcap:=grownCap_ge w s.length 0 e
  obtain ⟨h1,hle⟩:=(hr.drew (w.drawn + 1) (Nat.le_succ _)).sealNew (bytesRow ⟨s.toArray⟩ (grownCap w s.length 0 e)) e ((bytesRow ⟨s.toArray⟩ (grownCap w s.length 0 e)).size,(bytesRow ⟨s.toArray⟩ (grownCap w s.length 0 e)).size + 1)
  let arr:=bytesRow ⟨s.toArray⟩ (grownCap w s.length 0 e)
  have hrep : Rep (gd σ w.heap.size arr) (oR s) (.slice (some ⟨w.heap.size,0,none⟩) s.length (grownCap w s.length 0 e)):=by
   have hln : (s.map fun b=>[D.int .u8 (b.toNat : Int)]).length = s.length:=by simp
   have:=Rep.sl (σ:=gd σ w.heap.size arr) (k:=1) (b:=1) (xs:=s.map fun b=>[D.int .u8 (b.toNat : Int)]) (A:=some ⟨w.heap.size,0,none⟩) (cap:=grownCap w s.length 0 e)
    (fun i j=>.int .u8 ((s.getD i 0).toNat : Int)) (by rw [hln]; exact hcap) (by rw [hln]; exact h48) (by rw [hln]; omega) (by intro x hx; simp only [List.mem_map] at hx; obtain ⟨b,_,rfl⟩:=hx; rfl)
    (fun h0=>⟨w.heap.size,0,arr,rfl,by simp [gd],fun i j hi hj=>by
     rw [hln] at hi
     obtain rfl : j = 0:=by omega
     have : arr = (s.map fun b=>Value.int .u8 (b.toNat : Int)).toArray ++ Array.replicate (grownCap w s.length 0 e - s.length) (.int .u8 0):=by
      show bytesRow _ _ = _
      unfold bytesRow
      rw [hsize]
      simp
     rw [this]
     simp only [Nat.zero_add,Nat.mul_one,Nat.add_zero]
     rw [Array.getElem?_append_left (by simpa using hi)]
     simp [List.getD,hi]⟩)
    (fun i j x d hx hd=>by
     simp only [List.getElem?_map,Option.map_eq_some_iff] at hx
     obtain ⟨b,hb,rfl⟩:=hx
     match j,hd with
     | 0,hd =>
       simp at hd; subst hd
       have : s.getD i 0 = b:=by simp [List.getD,hb]
       rw [this]
       refine .int ⟨?_,?_⟩
       ·simp [IntKind.min,IntKind.signed,IntKind.bits]
       ·have:=b.toNat_lt
        simp [IntKind.max,IntKind.signed,IntKind.bits]; omega
     | _ + 1,hd=>simp at hd)
   rw [hln] at this
   exact this
  exact ⟨_,_,⟨bt o.dst (.one (.d (oR s))) st.fr,st.sto⟩,_,φ,by simp [execOp,ho,hxe,hrun],h1.put (v:=.one (.d (oR s))) hd (RepC.d hrep),h⟩
theorem vb{ops : Array Oper}{o : Oper}{rest : List Oper}{st ss : St}{K : St→Prop}{f : FuncId}{caps : Array Operand}{avs : List AV}{ds : List D}(dl : List Nat)
  (ho : o.op = .makeFunc (.func f) #[] caps) (hg : o.guard = none) (hd : aU c.n o.dst = true) (hss : sealL st dl = some ss) (ha : evL ss caps.toList = some avs) (hds : kA avs = some ds)
  (h : ae P c ops rest ⟨bt o.dst (.one (.d (.fn f ds))) st.fr,dU dl st.sto⟩ K) : ae P c ops (o::rest) st K :=
 bk hg fun a w σ φ hr=>by
  obtain ⟨σs,hs,hr1⟩:=hr.given hss
  have h1:=nO hds (gQ hs ha)
  refine ⟨.func (.func f) #[] (caps.toList.map a.eval).toArray,w,⟨bt o.dst (.one (.d (.fn f ds))) st.fr,dU dl st.sto⟩,σs,φ,?_,hr1.put (v:=.one (.d (.fn f ds))) hd (RepC.d (.fn _ h1.length.symm fun j d v hd hv=>?_)),h⟩
  ·have e : (caps.toList.map a.eval).toArray = caps.map a.eval:=by rw [← Array.toList_map,Array.toArray_toList]
   rw [e]
   simp [execOp,ho,Instr.makeFunc]
  ·obtain ⟨u,hu,hru⟩:=h1.get hd
   rw [hv] at hu; cases hu; exact hru
def cg(i : Nat) : List Nat→Bool
 | []=>false
 | j::r=>Nat.beq j i || cg i r
theorem memL_iff{i : Nat} : ∀ {l : List Nat},cg i l = true↔i∈l
 | []=>by simp [cg]
 | j::r=>by
   simp only [cg,Bool.or_eq_true,memL_iff (l:=r),List.mem_cons]
   exact or_congr_left ⟨fun h=>(Nat.eq_of_beq_eq_true h).symm,fun h=>by rw [h]; exact Nat.beq_refl _⟩
def db(s : Sto) : List Nat→List Nat→List Nat
 | [],acc=>acc
 | i::r,acc=>bif cg i acc || !bo s i then db s r acc else db s r (acc ++ [i])
theorem lC{s s2 : Sto} : ∀ {l acc : List Nat},(∀ i∈l,look s2 i = look s i)→db s2 l acc = db s l acc
 | [],_,_=>rfl
 | i::r,acc,h=>by
   have h1 : bo s2 i = bo s i:=by simp [bo,h i List.mem_cons_self]
   simp only [db,h1]
   rw [lC fun j hj=>h j (List.mem_cons_of_mem _ hj),lC fun j hj=>h j (List.mem_cons_of_mem _ hj)]
theorem mi{s : Sto}{i : Nat} : ∀ {l acc : List Nat},i∈db s l acc→i∈l∨i∈acc
 | [],_,h=>.inr h
 | j::r,acc,h=>by
   simp only [db] at h
   cases hb : cg j acc || !bo s j with
   | true =>
     simp only [hb,cond_true] at h
     rcases mi h with h | h
     ·exact .inl (by simp [h])
     ·exact .inr h
   | false =>
     simp only [hb,cond_false] at h
     rcases mi h with h | h
     ·exact .inl (by simp [h])
     ·simp at h
      rcases h with h | h
      ·exact .inr h
      ·exact .inl (by simp [h])
def tV(sto : Sto) : Option AV→Option Bool
 | some (.one (.d .nil))=>some true
 | some (.one (.d (.sl _ _ (_::_))))=>some false
 | some (.one (.own id _))=>match look sto id with | some (.row _ _ (_::_))=>some false | _=>none
 | _=>none
def oT : Option AV→Bool
 | some (.one (.d .nil))=>true
 | _=>false
def ll(T : Tab)(t : TypeId) : Bool:=match look T t with | some ⟨.slice _,_,_,_⟩=>true | _=>false
theorem sU(hT : ba P T){t : TypeId}(h : ll T t = true) : ∃ e,P.underlying t = some (.slice e):=by
 unfold ll at h
 split at h
 ·rename_i e sz b z hl
  obtain ⟨_,u,_,_,hu,_,_,_,hk,_⟩:=(hT t _ hl).ex
  simp only [ej] at hk
  exact ⟨e,by rw [hu,hk]⟩
 ·cases h
theorem Ie{st : St}{a : Act}(hr : Rel c st a w σ φ){x : Operand}{b : Bool}(h : tV st.sto (ev st x) = some b) : ∃ A n cap,a.eval x = .slice A n cap∧A.isNone = b:=by
 unfold tV at h
 split at h
 ·rename_i hx
  simp only [Option.some.injEq] at h; subst h
  have h1:=RepC.d_inv (aI hr hx)
  generalize a.eval x = u at h1
  cases h1
  exact ⟨none,0,0,rfl,rfl⟩
 ·rename_i k bb y ys hx
  simp only [Option.some.injEq] at h; subst h
  have h1:=RepC.d_inv (aI hr hx)
  generalize a.eval x = u at h1
  cases h1 with
  | sl vs hc h48 hb hk hA hh =>
    obtain ⟨B,o,cells,rfl,_⟩:=hA (by simp)
    exact ⟨_,_,_,rfl,rfl⟩
 ·rename_i id n hx
  split at h <;> simp at h
  rename_i k bb y ys hl
  subst h
  have h1 : RepC σ φ st.sto (.own id n) (a.eval x):=aI hr hx
  generalize a.eval x = u at h1
  cases h1 with
  | dead hxx _=>simp [bG,b5 hl] at hxx
  | own hl' hn hp=>exact ⟨_,_,_,rfl,rfl⟩
  | ownNil hl' hp =>
    rw [hl] at hl'; cases hl'
    rcases hr.inv.obj _ _ hl with ⟨h2,_⟩ | ⟨B,cap,arr,t,vs,h2,_⟩
    ·cases h2
    ·rw [hp] at h2; cases h2
 ·simp at h
theorem BB(hT : ba P T){ops : Array Oper}{o : Oper}{rest : List Oper}{st : St}{K : St→Prop}{op : BinOp}{t ty : TypeId}{x y : Operand}{b e : Bool}
  (ho : o.op = .binOp op t x y ty) (hop : iN op = some e) (hg : o.guard = none) (hd : aU c.n o.dst = true) (ht : (ll T t && oT (ev st y)) = true) (hv : tV st.sto (ev st x) = some b)
  (h : ae P c ops rest ⟨bt o.dst (.one (.d (.bool (b == e)))) st.fr,st.sto⟩ K) : ae P c ops (o::rest) st K :=
 bk hg fun a w σ φ hr=>by
  rw [Bool.and_eq_true] at ht
  obtain ⟨el,hu⟩:=sU hT ht.1
  obtain ⟨A,n,cap,hx,hA⟩:=Ie hr hv
  have hy : a.eval y = .slice none 0 0:=by
   have h2:=ht.2
   unfold oT at h2
   split at h2
   ·rename_i hy
    have h1:=RepC.d_inv (aI hr hy)
    generalize a.eval y = u at h1
    cases h1; rfl
   ·cases h2
  refine ⟨.bool (b == e),w,_,σ,φ,?_,hr.put (v:=.one (.d (.bool (b == e)))) hd (RepC.d .bool),h⟩
  cases op <;> simp only [iN,Option.some.injEq,reduceCtorEq] at hop <;> subst hop
  ·simp [execOp,ho,hx,hy,bQ,Lib.run_eql_slice_nil _ _ _ _ _ _ _ _ hu,hA]
  ·simp [execOp,ho,hx,hy,bQ,run_neq_slice_nil_any _ _ _ _ _ _ _ _ hu,hA]
def tW(sto : Sto) : Option AV→Option Bool
 | some (.one (.d (.raw (.pointer none))))=>some true
 | some (.one (.d (.ptr _)))=>some false
 | some (.one (.ref id _))=>bif bo sto id then some false else none
 | some (.one (.rref id _ _))=>bif bo sto id then some false else none
 | _=>none
def sj : Option AV→Bool
 | some (.one (.d (.raw (.pointer none))))=>true
 | _=>false
def vc(T : Tab)(t : TypeId) : Bool:=match look T t with | some ⟨.ptr,_,_,_⟩=>true | _=>false
theorem Ig{st : St}{a : Act}(hr : Rel c st a w σ φ){x : Operand}{b : Bool}(h : tW st.sto (ev st x) = some b) : ∃ p,a.eval x = .pointer p∧p.isNone = b:=by
 unfold tW at h
 split at h
 ·rename_i hx
  simp only [Option.some.injEq] at h; subst h
  have h1:=RepC.d_inv (aI hr hx)
  generalize a.eval x = u at h1
  cases h1
  exact ⟨none,rfl,rfl⟩
 ·rename_i cs hx
  simp only [Option.some.injEq] at h; subst h
  have h1:=RepC.d_inv (aI hr hx)
  generalize a.eval x = u at h1
  cases h1
  exact ⟨_,rfl,rfl⟩
 ·rename_i id off hx
  cases hk : bo st.sto id <;> simp only [hk,cond_true,cond_false,reduceCtorEq,Option.some.injEq] at h
  subst h
  have h1 : RepC σ φ st.sto (.ref id off) (a.eval x):=aI hr hx
  generalize a.eval x = u at h1
  cases h1 with
  | dead hxx _=>simp only [bG] at hxx; rw [hk] at hxx; cases hxx
  | ref hl hp=>exact ⟨_,rfl,rfl⟩
 ·rename_i id i off hx
  cases hk : bo st.sto id <;> simp only [hk,cond_true,cond_false,reduceCtorEq,Option.some.injEq] at h
  subst h
  have h1 : RepC σ φ st.sto (.rref id i off) (a.eval x):=aI hr hx
  generalize a.eval x = u at h1
  cases h1 with
  | dead hxx _=>simp only [bG] at hxx; rw [hk] at hxx; cases hxx
  | rref hl hp=>exact ⟨_,rfl,rfl⟩
 ·simp at h
theorem AM(hT : ba P T){ops : Array Oper}{o : Oper}{rest : List Oper}{st : St}{K : St→Prop}{op : BinOp}{t ty : TypeId}{x y : Operand}{b e : Bool}
  (ho : o.op = .binOp op t x y ty) (hop : iN op = some e) (hg : o.guard = none) (hd : aU c.n o.dst = true) (ht : (vc T t && sj (ev st y)) = true) (hv : tW st.sto (ev st x) = some b)
  (h : ae P c ops rest ⟨bt o.dst (.one (.d (.bool (b == e)))) st.fr,st.sto⟩ K) : ae P c ops (o::rest) st K :=
 bk hg fun a w σ φ hr=>by
  rw [Bool.and_eq_true] at ht
  have hu : ∃ el,P.underlying t = some (.pointer el):=by
   have h1:=ht.1
   unfold vc at h1
   split at h1
   ·rename_i sz b z hl
    obtain ⟨_,u,_,_,hu,_,_,_,hk,_⟩:=(hT t _ hl).ex
    simp only [ej] at hk
    obtain ⟨e,rfl⟩:=hk
    exact ⟨e,hu⟩
   ·cases h1
  obtain ⟨el,hu⟩:=hu
  obtain ⟨p,hx,hA⟩:=Ig hr hv
  have hy : a.eval y = .pointer none:=by
   have h2:=ht.2
   unfold sj at h2
   split at h2
   ·rename_i hy
    have h1:=RepC.d_inv (aI hr hy)
    generalize a.eval y = u at h1
    cases h1; rfl
   ·cases h2
  have heq : (Op.equal t (.pointer p) (.pointer none)).run P w = .ok p.isNone w:=by
   have h1 : ∀ d,(Op.equalIn (d + 1) t (.pointer p) (.pointer none)).run P w = .ok p.isNone w:=fun d=>by
    cases p <;> simp [Op.equalIn,run_underlying hu]
   exact h1 9999
  refine ⟨.bool (b == e),w,_,σ,φ,?_,hr.put (v:=.one (.d (.bool (b == e)))) hd (RepC.d .bool),h⟩
  cases op <;> simp only [iN,Option.some.injEq,reduceCtorEq] at hop <;> subst hop
  ·simp [execOp,ho,hx,hy,bQ,binOp,heq,hA]
  ·simp [execOp,ho,hx,hy,bQ,binOp,heq,hA]
theorem Ev{ops : Array Oper}{o : Oper}{rest : List Oper}{st ss : St}{K : St→Prop}{d id : Nat}{obj : AObj}{v : AV}(dl : List Nat)(hg : o.guard = none)(hdst : o.dst = some d)(hd : (Nat.blt d c.n && Nat.blt id 1000000) = true)
  (hss : sealL st dl = some ss) (hm1 : bx id st.fr = false) (hm2 : aR id (dU dl st.sto) = false)
  (H : ∀ (a : Act) (w : World) (σ : Sig) (φ : Pl),Rel c ss a w σ φ→∃ (u : Value) (arr : Array Value) (t : TypeId) (cap : Nat),(execOp a.eval o).run P w = .ok (.value u) (w.alloc (.cells arr t)) ∧
   ∀ sto',ObjRep σ (bY φ id (some (w.heap.size,cap))) ((id,obj)::sto') (w.alloc (.cells arr t)) id obj∧RepV σ (bY φ id (some (w.heap.size,cap))) ((id,obj)::sto') v u)
  (h : ae P c ops rest ⟨(d,v)::st.fr,(id,obj)::dU dl st.sto⟩ K) : ae P c ops (o::rest) st K :=
 bk hg fun a w σ φ hr0=>by
  obtain ⟨σs,hs,hr⟩:=hr0.given hss
  obtain ⟨u,arr,t,cap,hrun,hboth⟩:=H a w σs φ hs
  obtain ⟨hobj,hv⟩:=hboth (dU dl st.sto)
  refine ⟨u,_,_,σs,bY φ id (some (w.heap.size,cap)),hrun,?_,h⟩
  rw [hdst]
  simp only [Bool.and_eq_true] at hd
  have hd' : aU c.n (some d) = true:=hd.1
  refine hr.putTo (dst:=some d) (st':=⟨st.fr,(id,obj)::dU dl st.sto⟩) hd' hr.le hr.fresh (hr.inv.add hm2 hobj) ?_ (hr.fra.alloc _) (fun i hi=>by
   have : i≠id:=by have:=Nat.le_of_ble_eq_true hd.2; omega
   rw [bj this]; exact hr.pin i hi) (fun _=>hv) ?_
  ·intro i e p hi hp
   rcases ai hi with ⟨rfl,rfl⟩ | ⟨hne,hi⟩
   ·rw [aQ] at hp; cases hp; exact .inl hr.fra.size
   ·rw [bj hne] at hp; exact hr.mine _ _ _ hi hp
  ·intro s x _ hx
   exact ⟨x,hx,fun z hz=>hz.ext (Sig.le_refl _) Ext.add fun j hj=>by cases hj; exact dJ hm1 hx⟩
theorem sy(hT : ba P T){ops : Array Oper}{o : Oper}{rest : List Oper}{st ss : St}{K : St→Prop}{d id n k b : Nat}{t e : TypeId}{z : List D}{parts : Array (Nat×Operand)}{xs : List (List D)}(dl : List Nat)
  (ho : o.op = .buildSlice t n parts) (hg : o.guard = none) (hdst : o.dst = some d) (hd : (Nat.blt d c.n && Nat.blt id 1000000) = true) (hss : sealL st dl = some ss) (ht : aW T t = some (e,k,b,z))
  (hp : dM ss k 0 parts.toList = some xs) (hn : Nat.beq parts.toList.length n = true) (hbig : (Nat.ble (n * k) 1000000 && Nat.ble (n * b) 1000000 && Nat.ble n 1000000) = true)
  (hm1 : bx id st.fr = false) (hm2 : aR id (dU dl st.sto) = false)
  (h : ae P c ops rest ⟨(d,.one (.own id n))::st.fr,(id,.row k b xs)::dU dl st.sto⟩ K) : ae P c ops (o::rest) st K:=by
 refine Ev dl hg hdst hd hss hm1 hm2 (fun a w σ φ hr=>?_) h
 obtain ⟨i,zv,hu,hi,rfl,rfl,hz,hzc,hzb,hzl⟩:=dr hT ht
 have hnl:=Nat.eq_of_beq_eq_true hn
 simp only [Bool.and_eq_true,Nat.ble_eq] at hbig
 obtain ⟨⟨hb1,hb2⟩,hb3⟩:=hbig
 obtain ⟨hl,hlk⟩:=pV hp
 have hxn : xs.length = n:=by omega
 have hz0:=od (σ:=σ) (φ:=φ) (sto:=ss.sto) hzc hzb hzl n
 obtain ⟨cells',h1,h2⟩:=pW hr (k:=i.size) parts.toList 0 xs [] ((List.replicate n z).flatten.map .d) ((Array.range (n * i.size)).map (fun j=>zv.cells[j % zv.cells.size]!)) hp rfl (by simp)
  (by rw [List.length_map,b8 (k:=i.size) (by intro x hx; rw [List.eq_of_mem_replicate hx]; exact hzl)]; simp [hnl]) (by simpa using hz0)
 have hdrop : ((List.replicate n z).flatten.map AC.d).drop (parts.toList.length * i.size) = []:=by
  apply List.drop_of_length_le
  rw [List.length_map,b8 (k:=i.size) (by intro x hx; rw [List.eq_of_mem_replicate hx]; exact hzl)]
  simp only [List.length_replicate,hnl]; exact Nat.le_refl _
 rw [hdrop,List.append_nil,List.nil_append] at h2
 have h2':=nr h2
 have hsz : cells'.size = n * i.size:=by
  have:=h2'.length
  rw [b8 hlk,hxn] at this
  simpa using this.symm
 refine ⟨.slice (some ⟨w.heap.size,0,none⟩) n n,cells',e,n,?_,fun sto'=>⟨ObjRep.mk_row (B:=w.heap.size) (cap:=n) aQ (cn w _) hsz (by omega) (by omega) ?_ hlk h2' (fun j u hu=>by simpa using hu) (iO hr.inv),?_⟩⟩
 ·have hbig' : ¬ (n * i.size > 2 ^ 24):=by omega
  have hpm : (parts.map fun (x : Nat×Operand)=>(x.1,a.eval x.2)).toList = parts.toList.map fun p=>(p.1,a.eval p.2):=by simp
  simp only [execOp,ho,Instr.buildSlice,Sem.run_bind,run_underlying hu,Result.andThen_ok,bV hi,if_neg hbig']
  by_cases h0 : n * i.size = 0
  ·have e0 : ∀ f : Nat→Value,(Array.range (n * i.size)).map f = #[]:=by rw [h0]; intro f; simp
   rw [e0] at h1
   simp only [if_pos h0,Sem.run_bind,Sem.run_pure,Result.andThen_ok,e0,hpm,h1]
   simp [newRow]
  ·simp only [if_neg h0,Sem.run_bind,eE hi hz,Sem.run_pure,Result.andThen_ok,hpm,h1]
   simp [newRow]
 ·rw [hxn]; omega
 ·have:=RepC.own (σ:=σ) (φ:=bY φ id (some (w.heap.size,n))) (sto:=(id,.row i.size i.bytes xs)::sto') (id:=id) (n:=n) (B:=w.heap.size) (cap:=n) aP (by omega) aQ
  exact this
def ng(os : List (Nat×AObj))(st : St)(k : Nat) : Nat→List (Nat×Operand)→Option (List (List D))
 | _,[]=>some []
 | i,(j,x)::r=>bif Nat.beq i j then (match evS os st x with
   | some v=>(match cellsOf v with
     | some cs=>(match fm cs with
       | some ds=>bif Nat.beq ds.length k then (match ng os st k (i + 1) r with | some l=>some (ds::l) | none=>none) else none
       | none=>none)
     | none=>none)
   | none=>none) else none
theorem xN{os : List (Nat×AObj)}{st ss : St}{k : Nat}(h : ∀ x,ev ss x = evS os st x) : ∀ {parts : List (Nat×Operand)} {i : Nat},dM ss k i parts = ng os st k i parts
 | [],_=>rfl
 | (j,x)::r,i=>by simp only [dM,ng,h x,xN h (parts:=r)]; rfl
theorem sV{os : List (Nat×AObj)}{st st2 : St}{k : Nat} : ∀ {parts : List (Nat×Operand)} {i : Nat},(∀ p∈parts,ev st2 p.2 = ev st p.2)→ng os st2 k i parts = ng os st k i parts
 | [],_,_=>rfl
 | (j,x)::r,i,h=>by
   have h1:=h (j,x) List.mem_cons_self
   simp only at h1
   simp only [ng,evS,h1,sV (parts:=r) fun p hp=>h p (List.mem_cons_of_mem _ hp)]
theorem wy(hT : ba P T){ops : Array Oper}{o : Oper}{rest : List Oper}{st : St}{K : St→Prop}{t : TypeId}{x : Operand}{id off n s : Nat}{cells : List AC}
  (ho : o.op = .slice t x none none none) (hg : o.guard = none) (hd : aU c.n o.dst = true) (ht : py T t = some (n,s)) (hx : ev st x = some (.one (.ref id off))) (hl : look st.sto id = some (.box cells))
  (h : ae P c ops rest ⟨bt o.dst (.one (.bsl id off n)) st.fr,st.sto⟩ K) : ae P c ops (o::rest) st K :=
 bk hg fun a w σ φ hr=>by
  obtain ⟨e,i,hu,hi,_⟩:=AN hT ht
  have h1 : RepC σ φ st.sto (.ref id off) (a.eval x):=aI hr hx
  generalize hux : a.eval x = ux at h1
  cases h1 with
  | dead hxx _=>simp [bG,b5 hl] at hxx
  | ref hl' hp =>
    rename_i B cap cs
    refine ⟨.slice (some ⟨B,off,none⟩) n n,w,_,σ,φ,?_,hr.put (v:=.one (.bsl id off n)) hd (RepC.bsl hl hp),h⟩
    simp [execOp,ho,hux,Instr.sliceAt,Instr.sureAddr,run_underlying hu,Instr.sliceBounds,bV hi,fJ]
theorem BC(hT : ba P T){ops : Array Oper}{o : Oper}{rest : List Oper}{st : St}{K : St→Prop}{t t2 e e2 k b k2 b2 id off n : Nat}{z z2 : List D}{x y : Operand}{v : AV}{cells cells' : List AC}{ys : List (List D)}
  (ho : o.op = .call { callee:=.builtin .copy,args:=#[x,y],argTypes:=#[t,t2] }) (hg : o.guard = none) (hd : aU c.n o.dst = true) (ht : aW T t = some (e,k,b,z)) (ht2 : aW T t2 = some (e2,k2,b2,z2))
  (hx : ev st x = some (.one (.bsl id off n))) (hl : look st.sto id = some (.box cells)) (hy : ev st y = some v) (hs : fj st k v = some ys) (hn : ys.length≤n) (h48 : ys.length < 2 ^ 48) (hsp : cZ off (ys.flatten.map .d) cells = some cells')
  (h : ae P c ops rest ⟨bt o.dst (.one (.d (.int .i64 ys.length))) st.fr,bS id (.box cells') st.sto⟩ K) : ae P c ops (o::rest) st K :=
 bk hg fun a w σ φ hr=>by
  obtain ⟨i,zv,hu,hi,rfl,_⟩:=dr hT ht
  obtain ⟨us,hsrc⟩:=BO hs hr.inv (aI hr hy)
  obtain ⟨⟨A,c',hux⟩,hfirst,hrep,hlen,hone⟩:=hsrc
  have h1 : RepC σ φ st.sto (.bsl id off n) (a.eval x):=aI hr hx
  generalize huxe : a.eval x = ux at h1
  obtain ⟨he,hle⟩:=jQ hsp
  cases h1 with
  | dead hxx _=>simp [bG,b5 hl] at hxx
  | bsl hl' hp =>
    rename_i B cap cs
    rw [hl] at hl'; cases hl'
    obtain ⟨B',c2,vs,ty,hp',hh,ha,hσ⟩:=hr.inv.obj _ _ hl
    rw [hp] at hp'; cases hp'
    have hlen2:=ha.length
    have hul : us.length = (ys.flatten.map AC.d).length:=by rw [List.length_map]; exact hrep.length.symm
    have hst:=run_storeCells_at P B off ty us 0 vs.toArray w hh (by simp; omega) hone
    simp only [Nat.add_zero] at hst
    have hE : Ext (fun _=>False) φ φ st.sto ((id,.box cells')::st.sto):=Ext.upd hl trivial
    obtain ⟨σ',φ',hr'⟩:=hr.write (o':=.box cells') (arr':=(vs.take off ++ us ++ vs.drop (off + us.length)).toArray) hl hp hh trivial
     ⟨B,cap,_,ty,hp,setRow_heap w B _ _ ty _ hh,jG (Sig.le_refl _) hE (fun j hj=>by cases hj) (by
      rw [he]
      have h2 : All2 (RepC σ φ st.sto) (ys.flatten.map .d) us:=hrep.map_d
      rw [← hul]
      exact ((ha.take off).append h2).append (ha.drop _)),hσ⟩
    refine ⟨.int .i64 ys.length,_,_,σ',φ',?_,hr'.put (v:=.one (.d (.int .i64 ys.length))) hd (RepC.d (.int (qp h48))),h⟩
    have hmin : Nat.min ys.length n = ys.length:=Nat.min_eq_left hn
    have hf:=hfirst P w rfl
    rw [hux] at hf
    have hmin2 : min ys.length n = ys.length:=Nat.min_eq_left hn
    have hc : (Builtin.copy_ #[t,t2] o.type #[.slice (some ⟨B,off,none⟩) n n,a.eval y]).run P w = .ok (.int .i64 ys.length) (w.setRow B (vs.take off ++ us ++ vs.drop (off + us.length)).toArray):=by
     rw [hux]
     simp [Builtin.copy_,run_underlying hu,Builtin.lenOf,hmin2,bV hi,hf,hst,goInt]
    simp [execOp,ho,resolve,invoke,builtin,huxe,hc]
def eW(st : St)(k n : Nat)(acc : List AC) : List (Nat×Operand)→Option (List AC)
 | []=>some acc
 | (i,x)::r=>match ev st x with
   | some v=>match cellsOf v with
     | some cs=>bif Nat.beq cs.length k && Nat.blt i n then (match cZ (i * k) cs acc with | some acc'=>eW st k n acc' r | none=>none) else none
     | none=>none
   | none=>none
def Ew(T : Tab)(t : TypeId) : Option (Nat×Nat×List D) :=
 match look T t with
 | some ⟨.array n e,_,_,z⟩=>(match look T e with | some td=>some (n,td.size,z) | none=>none)
 | _=>none
theorem sW{st : St}{a : Act}(hrel : Rel c st a w σ φ){k n : Nat} :
  ∀ (parts : List (Nat×Operand)) (acc cs : List AC) (cells : Array Value),eW st k n acc parts = some cs→All2 (RepC σ φ st.sto) acc cells.toList →
    ∃ cells' : Array Value,Instr.fill (fun i=>some (i * k,k)) cells (parts.map fun p=>(p.1,a.eval p.2)) = some cells'∧All2 (RepC σ φ st.sto) cs cells'.toList
 | [],acc,cs,cells,h,ha=>by
   simp [eW] at h; subst h
   exact ⟨cells,rfl,ha⟩
 | (i,x)::parts,acc,cs,cells,h,ha=>by
   simp only [eW] at h
   split at h <;> (try (simp at h; done))
   rename_i v hx
   split at h <;> (try (simp at h; done))
   rename_i cs' hcs
   cases hb : Nat.beq cs'.length k && Nat.blt i n <;> simp only [hb,cond_true,cond_false,reduceCtorEq] at h
   simp only [Bool.and_eq_true] at hb
   split at h <;> (try (simp at h; done))
   rename_i acc' hsp
   have hk:=Nat.eq_of_beq_eq_true hb.1
   obtain ⟨cells1,h1,_,h3⟩:=rr (σ:=σ) (φ:=φ) (sto:=st.sto) (fun i=>some (i * k,k)) (i:=i) (o:=i * k) (acc:=acc) (cs:=cs') (acc':=acc') (cells:=cells) (u:=a.eval x) (rest:=parts.map fun p=>(p.1,a.eval p.2))
    (by rw [hk]) hsp (gM hcs (aI hrel hx)) ha
   obtain ⟨uS,h4,h5⟩:=sW hrel parts acc' cs cells1 h h1
   exact ⟨uS,by rw [List.map_cons,h3,h4],h5⟩
theorem AO(hT : ba P T){ops : Array Oper}{o : Oper}{rest : List Oper}{st : St}{K : St→Prop}{t : TypeId}{parts : Array (Nat×Operand)}{n k : Nat}{z : List D}{cs : List AC}
  (ho : o.op = .build t parts) (hg : o.guard = none) (hd : aU c.n o.dst = true) (ht : Ew T t = some (n,k,z)) (hv : eW st k n (z.map .d) parts.toList = some cs)
  (h : ae P c ops rest ⟨bt o.dst (.agg cs) st.fr,st.sto⟩ K) : ae P c ops (o::rest) st K :=
 bk hg fun a w σ φ hr=>by
  unfold Ew at ht
  split at ht <;> (try (simp at ht; done))
  rename_i n' e sz b z' hta
  split at ht <;> (try (simp at ht; done))
  rename_i td hte
  simp only [Option.some.injEq,Prod.mk.injEq] at ht
  obtain ⟨rfl,rfl,rfl⟩:=ht
  obtain ⟨i,u,zv,hi,hu,hs,_,hz,hk,hzc,hzb,_,hza,_⟩:=(hT t _ hta).ex
  simp only [ej] at hk; subst hk
  obtain ⟨i2,_,_,hi2,_,hs2,_⟩:=(hT e td hte).ex
  have hzr : All2 (RepC σ φ st.sto) (z'.map .d) zv.cells.toList:=by
   rw [hzc]; exact tl hzb
  obtain ⟨cells',h1,h2⟩:=sW hr (k:=td.size) (n:=n') parts.toList (z'.map .d) cs zv.cells hv hzr
  refine ⟨.agg cells',w,_,σ,φ,?_,hr.put (v:=.agg cs) hd ⟨cells'.toList,by simp,h2⟩,h⟩
  have e1 : (parts.map fun (x : Nat×Operand)=>(x.1,a.eval x.2)).toList = parts.toList.map fun p=>(p.1,a.eval p.2):=by simp
  simp only [execOp,ho,Instr.build,Sem.run_bind,eE hi hz,Result.andThen_ok,run_underlying hu,bV hi2,hs2]
  rw [e1,h1]
  rfl
end Go.Abs
namespace Go.Abs
open Go
variable {P : Program} {c : Ctx} {T : Tab} {σ : Sig} {φ : Pl} {w : World}
abbrev Dm:=List (Nat×MTy)
structure Env where
 T : Tab
 E : tg
 M : Dm
structure EnvOk (P : Program) (V : Env) : Prop where
 T : ba P V.T
 E : yQ P V.E
 M : ∀ t m,look V.M t = some m→MOk P t m
def bEq : Bool→Bool→Bool
 | true,true | false,false=>true
 | _,_=>false
theorem im{a b : Bool}(h : bEq a b = true) : a = b:=by cases a <;> cases b <;> first | rfl | simp [bEq] at h
def MS(T : Tab)(t : TypeId) : Option (Nat×Bool×Nat) :=
 match look T t with
 | some ⟨.array n e,_,_,_⟩=>(match look T e with | some td=>some (n,td.kind.isAgg,td.size) | none=>none)
 | _=>none
def yW(T : Tab)(t : TypeId) : Option AV→Option AV→Option AV
 | some (.one (.d (.int _ n))),some (.agg cs)=>match MS T t with
   | some (m,g,s)=>bif decide (0≤n) && decide (n < (m : Int)) && Nat.blt 0 s then fC g s (cs.drop (n.toNat * s)) else none
   | none=>none
 | _,_=>none
theorem Iu(hT : ba P T){e : TypeId}{td : TD}(he : look T e = some td){off : Nat}{cs : List AC}{v : AV}{sto : Sto}(h0 : 0 < td.size)(hv : fC td.kind.isAgg td.size (cs.drop off) = some v)
  {vs : List Value} (hr : All2 (RepC σ φ sto) cs vs) : ∃ u,(part e vs.toArray off).run P w = .ok u w∧RepV σ φ sto v u:=by
 obtain ⟨i,u,z,hi,hu,hs,hby,hz,hk,_⟩:=(hT e td he).ex
 have hg:=qJ hk
 cases hag : cY u with
 | true =>
   rw [← hg,hag,← hs] at hv
   have h1 : (isAgg e).run P w = .ok true w:=by
    unfold isAgg
    cases u <;> simp [cY] at hag <;> simp [run_underlying hu]
   obtain ⟨hl,hrv⟩:=qj hv (hr.drop off)
   refine ⟨_,by simp [part,h1,sizeOf,typeInfo,hi]; rfl,?_⟩
   have e : List.extract vs off (off + i.size) = (vs.drop off).take i.size:=by
    simp [List.extract_eq_take_drop]
   simpa [e] using hrv
 | false =>
   rw [← hg,hag] at hv
   have h1 : (isAgg e).run P w = .ok false w:=by
    unfold isAgg
    cases u <;> simp [cY] at hag <;> simp [run_underlying hu]
   obtain ⟨x,hx,hrv⟩:=qk hv (hr.drop off)
   have hx' : vs[off]? = some x:=by simpa [List.getElem?_drop] using hx
   exact ⟨x,by simp [part,h1,hx'],hrv⟩
theorem EK(hT : ba P T){ops : Array Oper}{o : Oper}{rest : List Oper}{st : St}{K : St→Prop}{t : TypeId}{x y : Operand}{v : AV}
  (ho : o.op = .index t x y) (hg : o.guard = none) (hd : aU c.n o.dst = true) (hv : yW T t (ev st y) (ev st x) = some v)
  (h : ae P c ops rest ⟨bt o.dst v st.fr,st.sto⟩ K) : ae P c ops (o::rest) st K :=
 bk hg fun a w σ φ hr=>by
  unfold yW at hv
  split at hv <;> (try (simp at hv; done))
  rename_i ik n cs hy hx
  split at hv <;> (try (simp at hv; done))
  rename_i m g s ht
  unfold MS at ht
  split at ht <;> (try (simp at ht; done))
  rename_i n' e sz bb z hta
  split at ht <;> (try (simp at ht; done))
  rename_i td hte
  simp only [Option.some.injEq,Prod.mk.injEq] at ht
  obtain ⟨rfl,rfl,rfl⟩:=ht
  cases hb : decide (0≤n) && decide (n < (n' : Int)) && Nat.blt 0 td.size <;> simp only [hb,cond_true,cond_false,reduceCtorEq] at hv
  simp only [Bool.and_eq_true,decide_eq_true_eq,Nat.blt_eq] at hb
  obtain ⟨i,u,z',hi,hu,_,_,_,hk,_⟩:=(hT t _ hta).ex
  simp only [ej] at hk; subst hk
  obtain ⟨i2,_,_,hi2,_,hs2,_⟩:=(hT e td hte).ex
  obtain ⟨vs,hvs,hrs⟩:=aI hr hx
  have hyr:=RepC.d_inv (aI hr hy)
  generalize hye : a.eval y = yv at hyr
  cases hyr
  obtain ⟨u,hu',hru⟩:=Iu (P:=P) (w:=w) hT hte (off:=n.toNat * td.size) hb.2 hv hrs
  refine ⟨u,w,_,σ,φ,?_,hr.put hd hru,h⟩
  have hlt : (0≤n∧n < (n' : Int)):=hb.1
  simp only [execOp,ho,hvs,hye,Instr.index,asIntOf,Sem.run_bind,Sem.run_pure,Result.andThen_ok,run_underlying hu,if_pos hlt,bV hi2,hs2,hu']
def aV(V : Env)(st : St)(o : Oper)(id : Nat) : Option Ef :=
 match cT V.T st o id with
 | some e=>some e
 | none=>match o.op with
   | .binOp op t x y _=>(match iN op,G3 V.E t (ev st x) (ev st y) with
     | some e,some b=>some ⟨.one (.d (.bool (b == e))),[],[]⟩
     | _,_=>(match wq op (ev st x) (ev st y) with
       | some d=>some ⟨.one (.d d),[],[]⟩
       | none=>(match iN op,tV st.sto (ev st x),tW st.sto (ev st x) with
         | some e,some b,_=>bif ll V.T t && oT (ev st y) then some ⟨.one (.d (.bool (b == e))),[],[]⟩ else none
         | some e,none,some b=>bif vc V.T t && sj (ev st y) then some ⟨.one (.d (.bool (b == e))),[],[]⟩ else none
         | _,_,_=>none)))
   | .convert src dst x=>(match ev st x with
     | some (.one (.d (.str s)))=>bif gm V.T src && nc V.T dst && Nat.ble s.length 1000000 then some ⟨.one (.d (oR s)),[],[]⟩ else none
     | _=>none)
   | .makeFunc (.func f) ⟨[]⟩ caps=>(match dI st.sto (db st.sto (cj st caps.toList) []) with
     | some os=>(match kI os st caps.toList with
       | some avs=>(match kA avs with | some ds=>some ⟨.one (.d (.fn f ds)),pf (db st.sto (cj st caps.toList) []),[]⟩ | none=>none)
       | none=>none)
     | none=>none)
   | .slice t x none none none=>(match py V.T t,ev st x with
     | some (n,_),some (.one (.ref i off))=>(match look st.sto i with
       | some (.box _)=>some ⟨.one (.bsl i off n),[],[]⟩
       | _=>none)
     | _,_=>none)
   | .call { callee:=.builtin .copy,args:=⟨[x,y]⟩,argTypes:=⟨[t,t2]⟩ }=>(match aW V.T t,aW V.T t2,ev st x,ev st y with
     | some (_,k,_,_),some _,some (.one (.bsl i off n)),some v=>(match look st.sto i,fj st k v with
       | some (.box cells),some ys=>(match cZ off (ys.flatten.map .d) cells with
         | some cells'=>bif Nat.ble ys.length n && Nat.ble ys.length 1000000 then some ⟨.one (.d (.int .i64 ys.length)),[(i,some (.box cells'))],[]⟩ else none
         | none=>none)
       | _,_=>none)
     | _,_,_,_=>none)
   | .buildSlice t n parts=>(match dI st.sto (db st.sto (cj st (parts.toList.map (·.2))) []),aW V.T t with
     | some os,some (_,k,b,_)=>(match ng os st k 0 parts.toList with
       | some xs=>bif gT o.dst && (Nat.beq parts.toList.length n && (Nat.ble (n * k) 1000000 && Nat.ble (n * b) 1000000 && Nat.ble n 1000000)) then some ⟨.one (.own id n),(id,some (.row k b xs))::pf (db st.sto (cj st (parts.toList.map (·.2))) []),[id]⟩ else none
       | none=>none)
     | _,_=>none)
   | .build t parts=>(match Ew V.T t with
     | some (n,k,z)=>(match eW st k n (z.map .d) parts.toList with | some cs=>some ⟨.agg cs,[],[]⟩ | none=>none)
     | none=>none)
   | .index t x y=>(match yW V.T t (ev st y) (ev st x) with | some v=>some ⟨v,[],[]⟩ | none=>none)
   | .makeMap t none=>(match look V.M t with
     | some m=>bif gT o.dst then some ⟨.one (.mapr id),[(id,some (.map m.kg m.vg []))],[id]⟩ else none
     | none=>none)
   | .lookup t x y ok=>(match look V.M t,ev st x,ev st y with
     | some m,some (.one (.mapr i)),some ky=>(match look st.sto i,lT m.kg ky with
       | some (.map kg vg es),some kd=>bif bEq kg m.kg && bEq vg m.vg && (fw m.ks kd && gi m.ks es) then (match sc m es kd ok with | some v=>some ⟨v,[],[]⟩ | none=>none) else none
       | _,_=>none)
     | _,_,_=>none)
   | .mapUpdate t x y z=>(match look V.M t,ev st x,ev st y,ev st z with
     | some m,some (.one (.mapr i)),some ky,some vl=>(match look st.sto i,lT m.kg ky,lT m.vg vl with
       | some (.map kg vg es),some kd,some vd=>bif bEq kg m.kg && bEq vg m.vg && (fw m.ks kd && gi m.ks es) && !gT o.dst then some ⟨.any,[(i,some (.map m.kg m.vg (gX kd vd es)))],[]⟩ else none
       | _,_,_=>none)
     | _,_,_,_=>none)
   | _=>none
theorem pT{V : Env}(hV : EnvOk P V){o : Oper}{st : St}{id : Nat}{e : Ef}(hd : aU c.n o.dst = true)(h : aV V st o id = some e)(hid : Nat.blt (id + 1) 1000000 = true)(hf : ot st e.new) : kn P c o st e:=by
 unfold aV at h
 split at h
 ·rename_i e' he
  simp only [Option.some.injEq] at h; subst h
  exact Hi hV.T hd he hid hf
 split at h
 ·rename_i op t x y ty ho
  split at h
  ·rename_i e' b h1 h2
   simp only [Option.some.injEq] at h; subst h
   intro ops rest K hk
   exact Ff hV.E (o:={ o with guard:=none }) ho h1 rfl hd h2 hk
  ·split at h
   ·rename_i d hdv
    simp only [Option.some.injEq] at h; subst h
    intro ops rest K hk
    exact Gv (o:={ o with guard:=none }) ho rfl hd hdv hk
   ·split at h <;> (try (simp at h; done))
    ·rename_i e' b h1 h2
     cases hb : ll V.T t && oT (ev st y) <;> simp only [hb,cond_true,cond_false,reduceCtorEq,Option.some.injEq] at h
     subst h
     intro ops rest K hk
     exact BB hV.T (o:={ o with guard:=none }) ho h1 rfl hd hb h2 hk
    ·rename_i e' b h1 h2 h3
     cases hb : vc V.T t && sj (ev st y) <;> simp only [hb,cond_true,cond_false,reduceCtorEq,Option.some.injEq] at h
     subst h
     intro ops rest K hk
     exact AM hV.T (o:={ o with guard:=none }) ho h1 rfl hd hb h3 hk
 ·rename_i src dst x ho
  split at h <;> (try (simp at h; done))
  rename_i s hx
  cases hb : gm V.T src && nc V.T dst && Nat.ble s.length 1000000 <;> simp only [hb,cond_true,cond_false,reduceCtorEq,Option.some.injEq] at h
  subst h
  rw [Bool.and_eq_true] at hb
  have hl:=Nat.le_of_ble_eq_true hb.2
  intro ops rest K hk
  exact sS hV.T (o:={ o with guard:=none }) ho rfl hd hb.1 hx (by omega) hk
 ·rename_i f caps ho
  split at h <;> (try (simp at h; done))
  rename_i os hos
  split at h <;> (try (simp at h; done))
  rename_i avs ha
  split at h <;> simp at h
  rename_i ds hds
  subst h
  intro ops rest K hk
  obtain ⟨ss,h1,h2⟩:=iM hos
  refine vb (o:={ o with guard:=none }) _ ho rfl hd h1 ((mF h2).trans ha) hds ?_
  rw [kH] at hk
  exact hk
 ·rename_i t x ho
  split at h <;> (try (simp at h; done))
  rename_i n s i off ht hx
  split at h <;> simp at h
  rename_i cells hl
  subst h
  intro ops rest K hk
  exact wy hV.T (o:={ o with guard:=none }) ho rfl hd ht hx hl hk
 ·rename_i x y t t2 ho
  split at h <;> (try (simp at h; done))
  rename_i e1 k b z q i off n v ht ht2 hx hy
  obtain ⟨q1,q2,q3,q4⟩:=q
  split at h <;> (try (simp at h; done))
  rename_i cells ys hl hs
  split at h <;> (try (simp at h; done))
  rename_i cells' hsp
  cases hb : Nat.ble ys.length n && Nat.ble ys.length 1000000 <;> simp only [hb,cond_true,cond_false,reduceCtorEq,Option.some.injEq] at h
  subst h
  simp only [Bool.and_eq_true,Nat.ble_eq] at hb
  intro ops rest K hk
  exact BC hV.T (o:={ o with guard:=none }) ho rfl hd ht ht2 hx hl hy hs hb.1 (by omega) hsp hk
 ·rename_i t n parts ho
  split at h <;> (try (simp at h; done))
  rename_i os e k b z hos ht
  split at h <;> (try (simp at h; done))
  rename_i xs hxs
  cases hb : gT o.dst && (Nat.beq parts.toList.length n && (Nat.ble (n * k) 1000000 && Nat.ble (n * b) 1000000 && Nat.ble n 1000000)) <;> simp only [hb,cond_true,cond_false,reduceCtorEq,Option.some.injEq] at h
  subst h
  rw [Bool.and_eq_true,Bool.and_eq_true] at hb
  obtain ⟨hD,hb1,hb2⟩:=hb
  intro ops rest K hk
  obtain ⟨d,hdst⟩ : ∃ d,o.dst = some d:=by
   cases h : o.dst with
   | none=>simp [h,gT] at hD
   | some d=>exact ⟨d,rfl⟩
  obtain ⟨f1,f2,f3⟩:=hf id (by simp)
  obtain ⟨ss,h1,h2⟩:=iM hos
  rw [hdst] at hk hd
  refine sy hV.T (o:={ o with guard:=none }) _ ho rfl hdst ?_ h1 ht ((xN h2).trans hxs) hb1 hb2 f2 (nZ f3) (lJ ?_)
  ·simp only [Bool.and_eq_true]
   refine ⟨hd,?_⟩
   have:=Nat.le_of_ble_eq_true hid
   show Nat.ble _ _ = true
   rw [Nat.ble_eq]; omega
  ·simp only [cM,kH] at hk
   exact hk
 ·rename_i t parts ho
  split at h <;> (try (simp at h; done))
  rename_i n k z ht
  split at h <;> simp at h
  rename_i cs hcs
  subst h
  intro ops rest K hk
  exact AO hV.T (o:={ o with guard:=none }) ho rfl hd ht hcs hk
 ·rename_i t x y ho
  split at h <;> simp at h
  rename_i v hv
  subst h
  intro ops rest K hk
  exact EK hV.T (o:={ o with guard:=none }) ho rfl hd hv hk
 ·rename_i t ho
  split at h <;> (try (simp at h; done))
  rename_i m hm
  cases hD : gT o.dst <;> simp only [hD,cond_true,cond_false,reduceCtorEq,Option.some.injEq] at h
  subst h
  intro ops rest K hk
  obtain ⟨d,hdst⟩ : ∃ d,o.dst = some d:=by
   cases h : o.dst with
   | none=>simp [h,gT] at hD
   | some d=>exact ⟨d,rfl⟩
  obtain ⟨f1,f2,f3⟩:=hf id (by simp)
  rw [hdst] at hk hd
  refine yb (o:={ o with guard:=none }) m.kg m.vg ho rfl hdst ?_ f2 f3 (lJ ?_)
  ·simp only [Bool.and_eq_true]
   refine ⟨hd,?_⟩
   have:=Nat.le_of_ble_eq_true hid
   show Nat.ble _ _ = true
   rw [Nat.ble_eq]; omega
  ·exact hk
 ·rename_i t x y ok ho
  split at h <;> (try (simp at h; done))
  rename_i m i ky hm hx hy
  split at h <;> (try (simp at h; done))
  rename_i kg vg es kd hl hk
  cases hb : bEq kg m.kg && bEq vg m.vg && (fw m.ks kd && gi m.ks es) <;> simp only [hb,cond_true,cond_false,reduceCtorEq] at h
  simp only [Bool.and_eq_true] at hb
  split at h <;> simp at h
  rename_i v hv
  subst h
  obtain rfl:=im hb.1.1
  obtain rfl:=im hb.1.2
  intro ops rest K hk'
  exact rp (hV.M t m hm) (o:={ o with guard:=none }) ho rfl hd hx hl hy hk hb.2.1 hb.2.2 hv hk'
 ·rename_i t x y z ho
  split at h <;> (try (simp at h; done))
  rename_i m i ky vl hm hx hy hz
  split at h <;> (try (simp at h; done))
  rename_i kg vg es kd vd hl hk hv
  cases hb : bEq kg m.kg && bEq vg m.vg && (fw m.ks kd && gi m.ks es) && !gT o.dst <;> simp only [hb,cond_true,cond_false,reduceCtorEq,Option.some.injEq] at h
  simp only [Bool.and_eq_true,Bool.not_eq_true'] at hb
  subst h
  obtain rfl:=im hb.1.1.1
  obtain rfl:=im hb.1.1.2
  have hdst : o.dst = none:=by
   have h2:=hb.2
   cases h : o.dst <;> simp [h,gT] at h2 ⊢
  intro ops rest K hk'
  rw [hdst] at hk'
  exact nL (hV.M t m hm) (o:={ o with guard:=none }) ho rfl hdst hx hl hy hk hb.1.2.1 hb.1.2.2 hz hv hk'
 ·simp at h
theorem GO{s s2 : Sto}{vx : Option AV}(h : ∀ v,vx = some v→∀ i∈bX v,look s2 i = look s i) : tV s2 vx = tV s vx:=by
 unfold tV
 split
 ·rfl
 ·rfl
 ·rw [h _ rfl _ (by simp [bX,eL])]
 ·rfl
theorem GP{s s2 : Sto}{vx : Option AV}(h : ∀ v,vx = some v→∀ i∈bX v,look s2 i = look s i) : tW s2 vx = tW s vx:=by
 unfold tW
 split
 ·rfl
 ·rfl
 ·rw [lU (h _ rfl _ (by simp [bX,eL]))]
 ·rw [lU (h _ rfl _ (by simp [bX,eL]))]
 ·rfl
theorem rM{st st2 : St}{k n : Nat} : ∀ {parts : List (Nat×Operand)} {acc : List AC},(∀ p∈parts,ev st2 p.2 = ev st p.2)→eW st2 k n acc parts = eW st k n acc parts
 | [],_,_=>rfl
 | (i,x)::r,acc,h=>by
   have h1:=h (i,x) List.mem_cons_self
   have ih : ∀ {acc},eW st2 k n acc r = eW st k n acc r:=fun {acc}=>rM fun p hp=>h p (List.mem_cons_of_mem _ hp)
   simp only at h1
   simp only [eW,h1,ih]
theorem EL{V : Env}{st st2 : St}{o : Oper}{id : Nat}(hs : ∀ t,t∈gO o.op→look st2.fr t = look st.fr t)(hi : ∀ i,i∈cj st o.op.operands.toList→look st2.sto i = look st.sto i) : aV V st2 o id = aV V st o id:=by
 unfold aV
 rw [Ds hs hi]
 have he : ∀ {x : Operand},x∈o.op.operands.toList→ev st2 x = ev st x:=fun hx=>eQ hs hx
 have hid : ∀ {x : Operand},x∈o.op.operands.toList→∀ v,ev st x = some v→∀ i,i∈bX v→look st2.sto i = look st.sto i:=fun hx v hv i h=>hi i (jJ hv h hx)
 split
 ·rfl
 generalize hop : o.op = op at he hid
 split
 ·rename_i op t x y ty
  rw [he (x:=x) (by simp [Op.operands]),he (x:=y) (by simp [Op.operands]),GO (hid (x:=x) (by simp [Op.operands])),GP (hid (x:=x) (by simp [Op.operands]))]
 ·rename_i src dst x
  rw [he (x:=x) (by simp [Op.operands])]
 ·rename_i f caps
  have hcap : ∀ x∈caps.toList,ev st2 x = ev st x:=fun x hx=>he (by simp [Op.operands]; simpa using hx)
  have hids : ∀ {l : List Operand},(∀ x∈l,ev st2 x = ev st x)→cj st2 l = cj st l:=by
   intro l
   induction l with
   | nil=>intro _; rfl
   | cons x r ih =>
     intro h
     simp only [cj,sn,h x List.mem_cons_self,ih fun y hy=>h y (List.mem_cons_of_mem _ hy)]
  have hi' : ∀ i∈cj st caps.toList,look st2.sto i = look st.sto i:=fun i h=>hi i (by
   have hmem : ∀ {l : List Operand} {l' : List Operand},i∈cj st l→(∀ x∈l,x∈l')→i∈cj st l':=by
    intro l
    induction l with
    | nil=>intro l' h; simp [cj] at h
    | cons x r ih =>
      intro l' h hs
      simp only [cj,List.mem_append] at h
      rcases h with h | h
      ·unfold sn at h
       split at h
       ·rename_i v hv
        exact jJ hv h (hs x List.mem_cons_self)
       ·simp at h
      ·exact ih h fun y hy=>hs y (List.mem_cons_of_mem _ hy)
   exact hmem h fun x hx=>by rw [hop]; simp [Op.operands]; simpa using hx)
  rw [hids hcap,lC hi']
  have ho : dI st2.sto (db st.sto (cj st caps.toList) []) = dI st.sto (db st.sto (cj st caps.toList) []):=ka fun i h=>by
   rcases mi h with h | h
   ·exact hi' i h
   ·simp at h
  rw [ho]
  simp only [np hcap]
 ·rename_i t x
  rw [he (x:=x) (by simp [Op.operands])]
  split
  ·rename_i n s i off ht hx
   rw [hid (x:=x) (by simp [Op.operands]) _ hx i (by simp [bX,eL])]
  ·rfl
 ·rename_i x y t t2
  rw [he (x:=x) (by simp [Op.operands,Call.operands]),he (x:=y) (by simp [Op.operands,Call.operands])]
  split
  ·rename_i e1 k b z q i off n v ht ht2 hx hy
   rw [hid (x:=x) (by simp [Op.operands,Call.operands]) _ hx i (by simp [bX,eL]),pz (hid (x:=y) (by simp [Op.operands,Call.operands]) _ hy)]
  ·rfl
 ·rename_i t n parts
  have hpar : ∀ p∈parts.toList,ev st2 p.2 = ev st p.2:=fun p hp=>he (by
   simp only [Op.operands,Array.toList_map,List.mem_map]
   exact ⟨p,by simpa using hp,rfl⟩)
  have hids : ∀ {l : List (Nat×Operand)},(∀ p∈l,ev st2 p.2 = ev st p.2)→cj st2 (l.map (·.2)) = cj st (l.map (·.2)):=by
   intro l
   induction l with
   | nil=>intro _; rfl
   | cons x r ih =>
     intro h
     simp only [List.map_cons,cj,sn,h x List.mem_cons_self,ih fun y hy=>h y (List.mem_cons_of_mem _ hy)]
  have hi' : ∀ i∈cj st (parts.toList.map (·.2)),look st2.sto i = look st.sto i:=fun i h=>hi i (by
   rw [hop]
   simpa [Op.operands] using h)
  rw [hids hpar,lC hi']
  have ho : dI st2.sto (db st.sto (cj st (parts.toList.map (·.2))) []) = dI st.sto (db st.sto (cj st (parts.toList.map (·.2))) []):=ka fun i h=>by
   rcases mi h with h | h
   ·exact hi' i h
   ·simp at h
  rw [ho]
  simp only [sV hpar]
 ·rename_i t parts
  have : ∀ {k n acc},eW st2 k n acc parts.toList = eW st k n acc parts.toList:=fun {k n acc}=>rM fun p hp=>he (by
   simp only [Op.operands,Array.toList_map,List.mem_map]
   exact ⟨p,by simpa using hp,rfl⟩)
  simp only [this]
 ·rename_i t x y
  rw [he (x:=x) (by simp [Op.operands]),he (x:=y) (by simp [Op.operands])]
 ·rfl
 ·rename_i t x y ok
  rw [he (x:=x) (by simp [Op.operands]),he (x:=y) (by simp [Op.operands])]
  split
  ·rename_i m i ky hm hx hy
   rw [hid (x:=x) (by simp [Op.operands]) _ hx i (by simp [bX,eL])]
  ·rfl
 ·rename_i t x y z
  rw [he (x:=x) (by simp [Op.operands]),he (x:=y) (by simp [Op.operands]),he (x:=z) (by simp [Op.operands])]
  split
  ·rename_i m i ky vl hm hx hy hz
   rw [hid (x:=x) (by simp [Op.operands]) _ hx i (by simp [bX,eL])]
  ·rfl
 ·rfl
def tf(st : St)(op : Op) : List Nat:=match op with
 | .move _ | .assign _=>[]
 | op=>cj st op.operands.toList
theorem BH{V : Env}{st st2 : St}{o : Oper}{id : Nat}(hs : ∀ t,t∈gO o.op→look st2.fr t = look st.fr t)(hi : ∀ i,i∈tf st o.op→look st2.sto i = look st.sto i) : aV V st2 o id = aV V st o id:=by
 have he : ∀ {x : Operand},x∈o.op.operands.toList→ev st2 x = ev st x:=fun hx=>eQ hs hx
 generalize hop : o.op = op at he
 cases op with
 | move x =>
   have h1:=he (x:=x) (by simp [Op.operands])
   simp only [aV,cT,hop,b6,h1,cD,lY]
 | assign x =>
   have h1:=he (x:=x) (by simp [Op.operands])
   simp only [aV,cT,hop,b6,h1,cD,lY]
 | _=>exact EL hs (by rw [hop] at hi ⊢; exact hi)
theorem nq{V : Env}(hV : EnvOk P V){o : Oper}{st : St}{id : Nat}{e : Ef}(hd : aU c.n o.dst = true)(h : aV V st o id = some e)(hid : Nat.blt (id + 1) 1000000 = true) : Loc P c o st (e.tr (tf st o.op)):=by
 intro st2 hs hri hnew ops rest K hk
 exact pT hV hd ((BH hs hri).trans h) hid hnew ops rest K hk
end Go.Abs
namespace Go.Abs
open Go
variable {P : Program} {c : Ctx} {T : Tab} {σ : Sig} {φ : Pl} {w : World}
abbrev Orc:=Option FuncId→Bool→List AV→Sto→Option (AV×Sto)
structure OrcOk (P : Program) (orc : Orc) : Prop where
 call : ∀ f b avs cs r s,orc (some f) b avs cs = some (r,s)→CallA P f avs cs r s
 yld : ∀ j b avs cs r s,orc none b (.one (.yl j)::avs) cs = some (r,s)→YieldA P j avs cs r s
def mx(l : List Nat)(m : Nat) : Nat:=match l with
 | []=>m
 | i::r=>mx r (bif Nat.ble m i && Nat.blt i 1000000 then i + 1 else m)
def KH : List (Nat×AV)→Nat→Nat
 | [],m=>m
 | (_,v)::r,m=>KH r (mx (bX v) m)
def j5 : List (Nat×AV)→List Nat
 | []=>[]
 | (_,v)::r=>bX v ++ j5 r
def yL : AObj→List Nat
 | .box cs=>pc cs
 | .loop _ fr _ _=>j5 fr
 | _=>[]
def IF : Sto→Nat→Nat
 | [],m=>m
 | (i,o)::r,m=>IF r (mx (i::yL o) m)
def lE(st : St) : Nat:=IF st.sto (KH st.fr 0)
def dQ(st : St) : List Nat→Bool
 | []=>true
 | i::r=>!bo st.sto i && !bx i st.fr && !aR i st.sto && dQ st r
theorem eK{st : St} : ∀ {l : List Nat},dQ st l = true→ot st l
 | [],_=>fun i h=>by simp at h
 | j::r,h=>by
   simp only [dQ,Bool.and_eq_true,Bool.not_eq_true'] at h
   intro i hi
   rcases List.mem_cons.1 hi with rfl | hi
   ·refine ⟨?_,h.1.1.2,h.1.2⟩
    cases hl : look st.sto i with
    | none=>rfl
    | some e=>have:=h.1.1.1; simp [bo,hl] at this
   ·exact eK h.2 i hi
def j6 : List AV→List Nat
 | []=>[]
 | v::r=>bX v ++ j6 r
def iK(s : Sto) : Nat→List Nat→List Nat→List Nat
 | 0,_,acc=>acc
 | _ + 1,[],acc=>acc
 | n + 1,i::r,acc=>bif cg i acc then iK s n r acc else (match look s i with
   | none=>iK s n r acc
   | some o=>iK s n (yL o ++ r) (acc ++ [i]))
def iL(s : Sto) : List Nat→Option (List (Nat×AObj))
 | []=>some []
 | i::r=>match look s i with
   | some o=>(match iL s r with | some l=>some ((i,o)::l) | none=>none)
   | none=>none
def bL(n : Nat) : List Nat→List (Nat×Nat)
 | []=>[]
 | i::r=>(n,i)::bL (n + 1) r
def inv(n : Nat) : List Nat→Nat→Nat
 | [],_=>0
 | j::r,i=>bif Nat.beq j i then n else inv (n + 1) r i
def kF(ids : List Nat) : List Nat→Bool
 | []=>true
 | i::r=>cg i ids && kF ids r
def gS(q : Nat→Nat) : List (Nat×AObj)→Sto
 | []=>[]
 | (i,o)::r=>(q i,cG q o)::gS q r
def nT(ids : List Nat) : List (Nat×AObj)→Bool
 | []=>true
 | (i,o)::r=>cg i ids && kF ids (yL o) && nT ids r
def vw : AObj→AObj→Bool
 | .box _,.box _=>true
 | .row k b xs,.row k' b' xs'=>Nat.beq k k' && Nat.beq b b' && Nat.ble xs.length xs'.length
 | .map kg vg _,.map kg' vg' _=>bEq kg kg' && bEq vg vg'
 | .loop _ _ _ _,.loop _ _ _ _=>true
 | _,_=>false
theorem Dh{e o : AObj}(h : vw e o = true) : compat e o:=by
 cases e <;> cases o <;> simp only [vw,Bool.and_eq_true,reduceCtorEq] at h <;> simp only [compat]
 ·exact ⟨Nat.eq_of_beq_eq_true h.1.1,Nat.eq_of_beq_eq_true h.1.2,Nat.le_of_ble_eq_true h.2⟩
 ·exact ⟨im h.1,im h.2⟩
def fF(s : Sto)(ρ : List (Nat×Nat)) : Sto→Bool
 | []=>true
 | (j,o)::r=>(match look ρ j with
   | none=>true
   | some i=>match look s i with
     | none=>true
     | some e=>vw e o) && fF s ρ r
theorem yM{i : Nat} : ∀ {ids : List Nat} {n : Nat},cg i ids = true→n≤inv n ids i
 | [],_,h=>by simp [cg] at h
 | j::r,n,h=>by
   simp only [inv]
   cases hb : Nat.beq j i with
   | true=>exact Nat.le_refl _
   | false =>
     simp only [cg,hb,Bool.false_or] at h
     have:=yM (n:=n + 1) h
     simp only [cond_false]; omega
theorem pd{i : Nat} : ∀ {ids : List Nat} {n : Nat},cg i ids = true→look (bL n ids) (inv n ids i) = some i
 | [],_,h=>by simp [cg] at h
 | j::r,n,h=>by
   simp only [inv,bL]
   cases hb : Nat.beq j i with
   | true =>
     have:=Nat.eq_of_beq_eq_true hb; subst this
     exact aP
   | false =>
     simp only [cg,hb,Bool.false_or] at h
     have:=yM (n:=n + 1) h
     simp only [cond_false]
     rw [aS (by omega)]
     exact pd h
theorem vz{j i : Nat} : ∀ {ids : List Nat} {n : Nat},look (bL n ids) j = some i→i∈ids
 | [],_,h=>by simp [bL,look] at h
 | k::r,n,h=>by
   simp only [bL] at h
   rcases ai h with ⟨_,rfl⟩ | ⟨_,h⟩
   ·simp
   ·exact List.mem_cons_of_mem _ (vz h)
theorem qs{k i : Nat}{ids : List Nat}(h : cg i ids = true) : rn k (bL 1000000 ids) (inv 1000000 ids i) = i:=by
 have h1:=yM (n:=1000000) h
 have h2:=pd (n:=1000000) h
 unfold rn
 have hb : Nat.blt (inv 1000000 ids i) 16 = false:=by
  cases hb : Nat.blt (inv 1000000 ids i) 16 with
  | false=>rfl
  | true=>have:=Nat.le_of_ble_eq_true hb; omega
 rw [hb,h2]; rfl
section
variable {r q : Nat→Nat}
theorem yN{x : AC}(h : ∀ i∈eL x,r (q i) = i) : iq r (iq q x) = x:=by
 cases x <;> simp only [iq,eL,List.mem_singleton,forall_eq] at h ⊢ <;> rw [h]
theorem nj : ∀ {xs : List AC},(∀ i∈pc xs,r (q i) = i)→j7 r (j7 q xs) = xs
 | [],_=>rfl
 | x::xs,h=>by
   simp only [j7]
   rw [yN fun i hi=>h i (by simp [pc,hi]),nj fun i hi=>h i (by simp [pc,hi])]
theorem wU : ∀ {xs : List (Bool×List AC)},(∀ i∈rP xs,r (q i) = i)→pe r (pe q xs) = xs
 | [],_=>rfl
 | (g,x)::xs,h=>by
   simp only [pe]
   rw [nj fun i hi=>h i (by simp [rP,hi]),wU fun i hi=>h i (by simp [rP,hi])]
theorem yO{v : AV}(h : ∀ i∈bX v,r (q i) = i) : dD r (dD q v) = v:=by
 cases v with
 | one x=>simp only [dD]; rw [yN h]
 | agg xs=>simp only [dD]; rw [nj h]
 | tup xs=>simp only [dD]; rw [wU h]
 | any=>rfl
theorem nk : ∀ {xs : List (Nat×AV)},(∀ i∈j5 xs,r (q i) = i)→c6 r (c6 q xs) = xs
 | [],_=>rfl
 | (s,x)::xs,h=>by
   simp only [c6]
   rw [yO fun i hi=>h i (by simp [j5,hi]),nk fun i hi=>h i (by simp [j5,hi])]
theorem GZ{o : AObj}(h : ∀ i∈yL o,r (q i) = i) : cG r (cG q o) = o:=by
 cases o with
 | box xs=>simp only [cG]; rw [nj h]
 | loop li fr s p=>simp only [cG]; rw [nk h]
 | _=>rfl
theorem tc : ∀ {xs : List AV},(∀ i∈j6 xs,r (q i) = i)→cX r (cX q xs) = xs
 | [],_=>rfl
 | x::xs,h=>by
   simp only [cX]
   rw [yO fun i hi=>h i (by simp [j6,hi]),tc fun i hi=>h i (by simp [j6,hi])]
end
theorem ou{ids : List Nat} : ∀ {l : List Nat},kF ids l = true→∀ i∈l,cg i ids = true
 | [],_,i,h=>by simp at h
 | j::r,h,i,hi=>by
   simp only [kF,Bool.and_eq_true] at h
   rcases List.mem_cons.1 hi with rfl | hi
   ·exact h.1
   ·exact ou h.2 i hi
theorem j8{s s2 : Sto} : ∀ {ids : List Nat},(∀ i∈ids,look s2 i = look s i)→iL s2 ids = iL s ids
 | [],_=>rfl
 | i::r,h=>by
   simp only [iL,h i List.mem_cons_self]
   rw [j8 fun j hj=>h j (List.mem_cons_of_mem _ hj)]
theorem j9{fr : List (Nat×AV)}{s : Sto}{k : Nat}{ids : List Nat} : ∀ {l : List Nat} {os : List (Nat×AObj)},iL s l = some os→nT ids os = true →
  Pass ⟨fr,s⟩ (rn k (bL 1000000 ids)) (bL 1000000 ids) (gS (inv 1000000 ids) os)
 | [],os,h,_=>by simp only [iL,Option.some.injEq] at h; subst h; trivial
 | i::r,os,h,ha=>by
   simp only [iL] at h
   split at h <;> (try (simp at h; done))
   rename_i o ho
   split at h <;> simp at h
   rename_i l hl
   subst h
   simp only [nT,Bool.and_eq_true] at ha
   refine ⟨⟨i,pd ha.1.1,?_⟩,j9 hl ha.2⟩
   rw [GZ fun i hi=>qs (ou ha.1.2 i hi)]
   exact ho
theorem jh{fr : List (Nat×AV)}{s s2 : Sto}{r : Nat→Nat}{ρ : List (Nat×Nat)}(h : ∀ j i,look ρ j = some i→look s2 i = look s i) : ∀ {rs : Sto},fF s ρ rs = true→CompatL ⟨fr,s2⟩ r ρ rs
 | [],_=>trivial
 | (j,o)::l,hb=>by
   simp only [fF,Bool.and_eq_true] at hb
   refine ⟨fun i e h1 h2=>?_,jh h hb.2⟩
   have h3:=hb.1
   rw [h1] at h3
   have h2' : look s i = some e:=(h j i h1).symm.trans h2
   simp only [h2'] at h3
   exact Dh h3
theorem te{s : Sto} : ∀ {ids : List Nat} {n : Nat},fU (bL n ids) s = dU ids s
 | [],_=>rfl
 | i::r,n=>by simp only [bL,fU,dU,te (ids:=r)]
def mw(k : Nat)(ids : List Nat)(rav : AV)(rs : Sto) : Tr:=⟨dD (rn k (bL 1000000 ids)) rav,vA (rn k (bL 1000000 ids)) rs ++ pf ids,ids,rng k 16⟩
theorem E8{o : Oper}{st : St}{fop : Operand}{args : Array Operand}{ats : Array TypeId}{f : FuncId}{caps : List D}{avs : List AV}{rav : AV}{rs : Sto}{os : List (Nat×AObj)}(k : Nat)(ids : List Nat)
  (ho : o.op = .call { callee:=.value fop,args:=args,argTypes:=ats }) (hd : aU c.n o.dst = true) (hf : ev st fop = some (.one (.d (.fn f caps)))) (ha : evL st args.toList = some avs)
  (hos : iL st.sto ids = some os) (hsub : (kF ids (j6 avs) && nT ids os) = true) (hC : CallA P f (cX (inv 1000000 ids) avs ++ caps.map fun x=>.one (.d x)) (gS (inv 1000000 ids) os) rav rs)
  (hcm : fF st.sto (bL 1000000 ids) rs = true)
  (hk : (fG (bL 1000000 ids) && iZ (bL 1000000 ids) && gu (gS (inv 1000000 ids) os) (bL 1000000 ids) && fV (bL 1000000 ids) && cA (bL 1000000 ids) rs && dp (gS (inv 1000000 ids) os) (cX (inv 1000000 ids) avs ++ caps.map fun x=>.one (.d x)) &&
   bm (gS (inv 1000000 ids) os) (gS (inv 1000000 ids) os) && c7 rs rav && bm rs rs && Nat.ble (k + 16) 1000000) = true) : Loc P c o st (mw k ids rav rs):=by
 intro st2 hs hri hnew ops rest K h
 have he : ∀ {x : Operand},x∈o.op.operands.toList→ev st2 x = ev st x:=fun hx=>eQ hs hx
 rw [ho] at he
 have hri' : ∀ i∈ids,look st2.sto i = look st.sto i:=hri
 have ha2 : evL st2 args.toList = some avs:=(jy fun x hx=>he (by simp [Op.operands,Call.operands]; exact .inr (by simpa using hx))).trans ha
 simp only [Bool.and_eq_true] at hsub
 refine lu (o:={ o with guard:=none }) k (bL 1000000 ids) ho rfl hd ((he (by simp [Op.operands,Call.operands])).trans hf) (cargs:=cX (inv 1000000 ids) avs) ?_ hC
  (j9 (fr:=st2.fr) ((j8 hri').trans hos) hsub.2) (jh (fr:=st2.fr) (s:=st.sto) (fun j i hji=>hri' i (vz hji)) hcm) hk (fun i h1 h2=>hnew i (rng_mem.2 ⟨h1,h2⟩)) ?_
 ·rw [tc fun i hi=>qs (ou hsub.1 i hi)]
  exact ha2
 ·simp only [mw] at h
  rw [kG,kH] at h
  rw [te]
  exact h
def hkB(k : Nat)(ids : List Nat)(cs : Sto)(cargs : List AV)(rav : AV)(rs : Sto) : Bool :=
 fG (bL 1000000 ids) && iZ (bL 1000000 ids) && gu cs (bL 1000000 ids) && fV (bL 1000000 ids) && cA (bL 1000000 ids) rs && dp cs cargs && bm cs cs && c7 rs rav && bm rs rs && Nat.ble (k + 16) 1000000
theorem E9{o : Oper}{st : St}{fop : Operand}{args : Array Operand}{ats : Array TypeId}{i : Nat}{avs : List AV}{rav : AV}{rs : Sto}{os : List (Nat×AObj)}(k : Nat)(ids : List Nat)(hrd : c.rd = none)
  (ho : o.op = .call { callee:=.value fop,args:=args,argTypes:=ats }) (hd : aU c.n o.dst = true) (hf : ev st fop = some (.one (.yl i))) (ha : evL st args.toList = some avs)
  (hos : iL st.sto ids = some os) (hsub : (cg i ids && kF ids (j6 avs) && nT ids os) = true) (hY : YieldA P (inv 1000000 ids i) (cX (inv 1000000 ids) avs) (gS (inv 1000000 ids) os) rav rs)
  (hcm : fF st.sto (bL 1000000 ids) rs = true) (hk : hkB k ids (gS (inv 1000000 ids) os) (cX (inv 1000000 ids) avs) rav rs = true) : Loc P c o st (mw k ids rav rs):=by
 intro st2 hs hri hnew ops rest K h
 have he : ∀ {x : Operand},x∈o.op.operands.toList→ev st2 x = ev st x:=fun hx=>eQ hs hx
 rw [ho] at he
 have hri' : ∀ i∈ids,look st2.sto i = look st.sto i:=hri
 have ha2 : evL st2 args.toList = some avs:=(jy fun x hx=>he (by simp [Op.operands,Call.operands]; exact .inr (by simpa using hx))).trans ha
 simp only [Bool.and_eq_true] at hsub
 refine Bk (o:={ o with guard:=none }) k (bL 1000000 ids) hrd ho rfl hd ((he (by simp [Op.operands,Call.operands])).trans hf) (pd hsub.1.1) (cargs:=cX (inv 1000000 ids) avs) ?_ hY
  (j9 (fr:=st2.fr) ((j8 hri').trans hos) hsub.2) (jh (fr:=st2.fr) (s:=st.sto) (fun j i hji=>hri' i (vz hji)) hcm) hk (fun i h1 h2=>hnew i (rng_mem.2 ⟨h1,h2⟩)) ?_
 ·rw [tc fun i hi=>qs (ou hsub.1.2 i hi)]
  exact ha2
 ·simp only [mw] at h
  rw [kG,kH] at h
  rw [te]
  exact h
theorem wV{o : Oper}{st : St}{fop : Operand}{args : Array Operand}{ats : Array TypeId}{f : FuncId}{caps : List D}{avs : List AV}{rav : AV}{rsto : Sto}{os : List (Nat×AObj)}(dl : List Nat)
  (ho : o.op = .call { callee:=.value fop,args:=args,argTypes:=ats }) (hd : aU c.n o.dst = true) (hos : dI st.sto dl = some os) (hf : evS os st fop = some (.one (.d (.fn f caps))))
  (ha : kI os st args.toList = some avs) (hD : cw avs = true) (hC : CallA P f (avs ++ caps.map fun x=>.one (.d x)) [] rav rsto) (hfl : fh rav = true) : Loc P c o st ⟨rav,[],dl,[]⟩:=by
 intro st2 hs hri hnew ops rest K h
 have he : ∀ {x : Operand},x∈o.op.operands.toList→ev st2 x = ev st x:=fun hx=>eQ hs hx
 rw [ho] at he
 have hos2 : dI st2.sto dl = some os:=(ka hri).trans hos
 obtain ⟨ss,h1,h2⟩:=iM hos2
 have ha2 : evL ss args.toList = some avs:=by
  rw [mF h2,np (st:=st) fun x hx=>he (by simp [Op.operands,Call.operands]; exact .inr (by simpa using hx))]
  exact ha
 have hf2 : ev ss fop = some (.one (.d (.fn f caps))):=by
  rw [h2]
  unfold evS
  rw [he (x:=fop) (by simp [Op.operands,Call.operands])]
  exact hf
 exact ji (o:={ o with guard:=none }) ho rfl hd (fun a w σ φ hr=>by
  obtain ⟨σs,_,h3,_⟩:=Rel.sealL h1 hr
  exact ⟨σs,φ,h3⟩) hf2 ha2 hD hC hfl h
def Fa(orc : Orc)(ow : Bool)(id : Nat)(st : St)(f : FuncId)(caps : List D)(avs : List AV)(ids : List Nat) : Option Tr :=
 match iL st.sto ids with
 | some os=>(match orc (some f) ow (cX (inv 1000000 ids) avs ++ caps.map fun x=>.one (.d x)) (gS (inv 1000000 ids) os) with
   | some (rav,rs)=>bif kF ids (j6 avs) && nT ids os && fF st.sto (bL 1000000 ids) rs && hkB id ids (gS (inv 1000000 ids) os) (cX (inv 1000000 ids) avs ++ caps.map fun x=>.one (.d x)) rav rs && dQ st (rng id 16) then some (mw id ids rav rs) else none
   | none=>none)
 | none=>none
def Fb(orc : Orc)(id : Nat)(st : St)(i : Nat)(avs : List AV)(ids : List Nat) : Option Tr :=
 match iL st.sto ids with
 | some os=>(match orc none false (.one (.yl (inv 1000000 ids i))::cX (inv 1000000 ids) avs) (gS (inv 1000000 ids) os) with
   | some (rav,rs)=>bif (cg i ids && kF ids (j6 avs) && nT ids os) && fF st.sto (bL 1000000 ids) rs && hkB id ids (gS (inv 1000000 ids) os) (cX (inv 1000000 ids) avs) rav rs && dQ st (rng id 16) then some (mw id ids rav rs) else none
   | none=>none)
 | none=>none
def Fc(orc : Orc)(ow : Bool)(id : Nat)(st : St)(fop : Operand)(args : List Operand)(dl : List Nat) : Option Tr :=
 match dI st.sto dl with
 | some os=>(match evS os st fop,kI os st args with
   | some (.one (.d (.fn f caps))),some avs=>bif cw avs then (match orc (some f) ow (avs ++ caps.map fun x=>.one (.d x)) [] with
     | some (rav,rsto)=>bif fh rav then some ⟨rav,[],dl,[]⟩ else bif cA [] rsto && Nat.ble (id + 16) 1000000 && c7 rsto rav && bm rsto rsto && dQ st (rng id 16) then some (lF id dl dl rav rsto) else none
     | none=>none) else none
   | _,_=>none)
 | none=>none
def xTr(V : Env)(mf : FuncId→Bool)(orc : Orc)(yf ow : Bool)(id : Nat)(st : St)(o : Oper) : Option Tr :=
 match aV V st o id with
 | some e=>bif Nat.blt (id + 1) 1000000 && dQ st e.new then some (e.tr (tf st o.op)) else none
 | none=>match o.op with
   | .call { callee:=.value fop,args,.. }=>(match ev st fop with
     | some (.one (.d (.fn f caps)))=>bif mf f then
       (match evL st args.toList with
       | some avs=>Fa orc ow id st f caps avs (iK st.sto 1000 (j6 avs) [])
       | none=>none)
       else Fc orc ow id st fop args.toList (db st.sto (cj st args.toList) [])
     | some (.one (.yl i))=>bif yf then
       (match evL st args.toList with
       | some avs=>Fb orc id st i avs (iK st.sto 1000 (i::j6 avs) [])
       | none=>none)
       else none
     | _=>none)
   | _=>none
theorem Fe{V : Env}(hV : EnvOk P V){mf : FuncId→Bool}{orc : Orc}(hO : OrcOk P orc){yf ow : Bool}(hy : yf = true→c.rd = none){id : Nat}{st : St}{o : Oper}{tr : Tr}(hd : aU c.n o.dst = true)(h : xTr V mf orc yf ow id st o = some tr) : Loc P c o st tr∧ot st tr.new:=by
 unfold xTr at h
 split at h
 ·rename_i e he
  cases hb : Nat.blt (id + 1) 1000000 && dQ st e.new <;> simp only [hb,cond_true,cond_false,reduceCtorEq,Option.some.injEq] at h
  subst h
  rw [Bool.and_eq_true] at hb
  exact ⟨nq hV hd he hb.1,eK hb.2⟩
 split at h <;> (try (simp at h; done))
 rename_i fop args ats ho
 split at h <;> (try (simp at h; done))
 ·rename_i f0 caps0 hf0
  cases hm : mf f0 with
  | true =>
    simp only [hm,cond_true] at h
    split at h <;> (try (simp at h; done))
    rename_i avs ha
    generalize iK st.sto 1000 (j6 avs) [] = ids at h
    unfold Fa at h
    split at h <;> (try (simp at h; done))
    rename_i os hos
    split at h <;> (try (simp at h; done))
    rename_i rav rs hor
    cases hb : kF ids (j6 avs) && nT ids os && fF st.sto (bL 1000000 ids) rs && hkB id ids (gS (inv 1000000 ids) os) (cX (inv 1000000 ids) avs ++ caps0.map fun x=>.one (.d x)) rav rs && dQ st (rng id 16) <;> simp only [hb,cond_true,cond_false,reduceCtorEq,Option.some.injEq] at h
    subst h
    simp only [Bool.and_eq_true] at hb
    obtain ⟨⟨⟨⟨h1,h2⟩,h3⟩,h4⟩,h5⟩:=hb
    exact ⟨E8 id ids ho hd hf0 ha hos (by rw [Bool.and_eq_true]; exact ⟨h1,h2⟩) (hO.call _ _ _ _ _ _ hor) h3 h4,eK h5⟩
  | false =>
    simp only [hm,cond_false] at h
    generalize db st.sto (cj st args.toList) [] = dl at h
    unfold Fc at h
    split at h <;> (try (simp at h; done))
    rename_i os hos
    split at h <;> (try (simp at h; done))
    rename_i f caps avs hf ha
    cases hD : cw avs <;> simp only [hD,cond_true,cond_false,reduceCtorEq] at h
    split at h <;> (try (simp at h; done))
    rename_i rav rsto hor
    cases hfl : fh rav with
    | true =>
      simp only [hfl,cond_true,Option.some.injEq] at h
      subst h
      exact ⟨wV _ ho hd hos hf ha hD (hO.call _ _ _ _ _ _ hor) hfl,fun i hi=>by simp at hi⟩
    | false =>
    simp only [hfl,cond_false] at h
    cases hb : cA [] rsto && Nat.ble (id + 16) 1000000 && c7 rsto rav && bm rsto rsto && dQ st (rng id 16) <;> simp only [hb,cond_true,cond_false,reduceCtorEq,Option.some.injEq] at h
    subst h
    rw [Bool.and_eq_true] at hb
    exact ⟨wW id _ ho hd hos hf ha hD (hO.call _ _ _ _ _ _ hor) hb.1,eK hb.2⟩
 ·rename_i i hf0
  cases yf with
  | false=>simp at h
  | true =>
    simp only [cond_true] at h
    split at h <;> (try (simp at h; done))
    rename_i avs ha
    generalize iK st.sto 1000 (i::j6 avs) [] = ids at h
    unfold Fb at h
    split at h <;> (try (simp at h; done))
    rename_i os hos
    split at h <;> (try (simp at h; done))
    rename_i rav rs hor
    cases hb : (cg i ids && kF ids (j6 avs) && nT ids os) && fF st.sto (bL 1000000 ids) rs && hkB id ids (gS (inv 1000000 ids) os) (cX (inv 1000000 ids) avs) rav rs && dQ st (rng id 16) <;> simp only [hb,cond_true,cond_false,reduceCtorEq,Option.some.injEq] at h
    subst h
    rw [Bool.and_eq_true,Bool.and_eq_true,Bool.and_eq_true] at hb
    obtain ⟨⟨⟨h1,h3⟩,h4⟩,h5⟩:=hb
    exact ⟨E9 id ids (hy rfl) ho hd hf0 ha hos h1 (hO.yld _ _ _ _ _ _ hor) h3 h4,eK h5⟩
end Go.Abs
