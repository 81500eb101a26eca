import Derived.Laws.IdiomStrings
import Derived.WalkSpells
import Derived.Test.YtpejdgkaapnekaaGreatGP7
import Derived.Test.YtpejdgkaapnekaaGreatGP6
set_option linter.unusedVariables false
set_option linter.unusedSimpArgs false
set_option linter.unnecessarySimpa false
set_option maxHeartbeats 1000000
namespace Go.Abs
open Go
variable {P : Program} {c : Ctx} {T : Tab} {σ : Sig} {φ : Pl} {w : World}
def uU(op : BinOp) : Option AV→Option AV→Option D
 | some (.one (.d (.int k x))),some (.one (.d (.int k' y)))=>match op with
   | .quo=>bif kEq k k' && !decide (y = 0) then some (.int k (k.wrap (x.tdiv y))) else none
   | .rem=>bif kEq k k' && !decide (y = 0) then some (.int k (x.tmod y)) else none
   | .shl=>bif !decide (y < 0) then some (.int k (k.wrap (x * 2 ^ (min y.toNat k.bits)))) else none
   | .shr=>bif !decide (y < 0) then some (.int k (x.fdiv (2 ^ (min y.toNat k.bits)))) else none
   | _=>none
 | _,_=>none
theorem ib{x y : Int}(hx : 0≤x)(hy : 0 < y) : x % y≤x:=by
 have h1:=Int.mul_ediv_add_emod x y
 have h2:=Int.mul_nonneg (show 0≤y by omega) (Int.ediv_nonneg hx (show 0≤y by omega))
 omega
theorem Gw{k : IntKind}{x y : Int}(h : inR k x) : inR k (x.tmod y):=by
 unfold inR at *
 have hmin : k.min≤0:=by unfold IntKind.min; cases k <;> simp [IntKind.signed,IntKind.bits]
 have hmax : 0≤k.max:=by unfold IntKind.max; cases k <;> simp [IntKind.signed,IntKind.bits]
 rcases Int.le_total 0 x with h0 | h0
 ·have h1:=Int.tmod_nonneg y h0
  have h2 : x.tmod y≤x:=by
   rw [Int.tmod_eq_emod_of_nonneg h0]
   rcases Int.lt_trichotomy y 0 with hy | hy | hy
   ·have:=Int.emod_nonneg x (show y≠0 by omega)
    rw [← Int.emod_neg]
    exact ib h0 (by omega)
   ·subst hy; simp
   ·exact ib h0 hy
  omega
 ·obtain ⟨z,rfl⟩ : ∃ z,x = -z:=⟨-x,by omega⟩
  rw [Int.neg_tmod]
  have h1:=Int.tmod_nonneg y (show 0≤z by omega)
  have h2 : z.tmod y≤z:=by
   rw [Int.tmod_eq_emod_of_nonneg (by omega)]
   rcases Int.lt_trichotomy y 0 with hy | hy | hy
   ·rw [← Int.emod_neg]
    exact ib (by omega) (by omega)
   ·subst hy; simp
   ·exact ib (by omega) hy
  omega
theorem Gx{k : IntKind}{x : Int}{n : Nat}(h : inR k x) : inR k (x.fdiv (2 ^ n)):=by
 unfold inR at *
 have hmin : k.min≤0:=by unfold IntKind.min; cases k <;> simp [IntKind.signed,IntKind.bits]
 have hmax : 0≤k.max:=by unfold IntKind.max; cases k <;> simp [IntKind.signed,IntKind.bits]
 have hp : (0 : Int) < 2 ^ n:=Int.pow_pos (by omega)
 rw [Int.fdiv_eq_ediv_of_nonneg _ (by omega)]
 rcases Int.le_total 0 x with h0 | h0
 ·have h1:=Int.ediv_nonneg h0 (show (0 : Int)≤2 ^ n by omega)
  have h2:=Int.ediv_le_self (2 ^ n) h0
  omega
 ·have h1 : x≤x / 2 ^ n:=by
   rw [Int.le_ediv_iff_mul_le hp]
   have : x * 2 ^ n≤x * 1:=Int.mul_le_mul_of_nonpos_left h0 (by omega)
   omega
  have h2 : x / 2 ^ n≤0:=by
   have : x / 2 ^ n < 1:=by rw [Int.ediv_lt_iff_lt_mul hp]; omega
   omega
  omega
theorem EP{ops : Array Oper}{o : Oper}{rest : List Oper}{st : St}{K : St→Prop}{op : BinOp}{t ty : TypeId}{x y : Operand}{d : D}
  (ho : o.op = .binOp op t x y ty) (hg : o.guard = none) (hd : aP c.n o.dst = true) (hv : uU op (ev st x) (ev st y) = some d)
  (h : ac P c ops rest ⟨bj o.dst (.one (.d d)) st.fr,st.sto⟩ K) : ac P c ops (o::rest) st K :=
 ba hg fun a w σ φ hr=>by
  unfold uU at hv
  split at hv <;> (try (simp at hv; done))
  rename_i k x' k' y' hx hy
  have h1:=RepC.d_inv (aC hr hx)
  have h2:=RepC.d_inv (aC hr hy)
  generalize hux : a.eval x = ux at h1
  generalize huy : a.eval y = uy at h2
  cases h1 with | int h1=>cases h2 with | int h2 =>
  split at hv
  ·cases hb : kEq k k' && !decide (y' = 0) <;> simp only [hb,cond_true,cond_false,reduceCtorEq,Option.some.injEq] at hv
   simp only [Bool.and_eq_true,Bool.not_eq_true',decide_eq_false_iff_not] at hb
   obtain rfl:=fp hb.1
   subst hv
   refine ⟨_,w,_,σ,φ,?_,hr.put (v:=.one (.d (.int k (k.wrap (x'.tdiv y'))))) hd (RepC.d (.int (jS _ _))),h⟩
   simp [execOp,ho,hux,huy,bF,binOp,Op.intDiv,hb.2]
  ·cases hb : kEq k k' && !decide (y' = 0) <;> simp only [hb,cond_true,cond_false,reduceCtorEq,Option.some.injEq] at hv
   simp only [Bool.and_eq_true,Bool.not_eq_true',decide_eq_false_iff_not] at hb
   obtain rfl:=fp hb.1
   subst hv
   refine ⟨_,w,_,σ,φ,?_,hr.put (v:=.one (.d (.int k (x'.tmod y')))) hd (RepC.d (.int (Gw h1))),h⟩
   simp [execOp,ho,hux,huy,bF,binOp,Op.intDiv,hb.2]
  ·cases hb : !decide (y' < 0) <;> simp only [hb,cond_true,cond_false,reduceCtorEq,Option.some.injEq] at hv
   simp only [Bool.not_eq_true',decide_eq_false_iff_not] at hb
   subst hv
   refine ⟨_,w,_,σ,φ,?_,hr.put (v:=.one (.d (.int k (k.wrap (x' * 2 ^ (min y'.toNat k.bits)))))) hd (RepC.d (.int (jS _ _))),h⟩
   simp [execOp,ho,hux,huy,bF,binOp,Op.shift,hb]
  ·cases hb : !decide (y' < 0) <;> simp only [hb,cond_true,cond_false,reduceCtorEq,Option.some.injEq] at hv
   simp only [Bool.not_eq_true',decide_eq_false_iff_not] at hb
   subst hv
   refine ⟨_,w,_,σ,φ,?_,hr.put (v:=.one (.d (.int k (x'.fdiv (2 ^ (min y'.toNat k.bits)))))) hd (RepC.d (.int (Gx h1))),h⟩
   simp [execOp,ho,hux,huy,bF,binOp,Op.shift,hb]
  ·simp at hv
def nM(s : List UInt8) : D:=.sl 1 1 (s.map fun b=>[.int .u8 (b.toNat : Int)])
theorem Rel.sealNew{st : St}{a : Act}(hr : Rel c st a w σ φ)(arr : Array Value)(t : TypeId)(f : Nat×Nat) :
  Rel c st a (w.alloc (.cells arr t f)) (fI σ w.heap.size arr) φ∧σ.le (fI σ w.heap.size arr):=by
 have hle : σ.le (fI σ w.heap.size arr):=qz (.inl (il hr.inv))
 have hheap : ∀ B,B < w.heap.size→(w.alloc (.cells arr t f)).heap[B]? = w.heap[B]?:=fun B hB=>RowKit.Below.heap_alloc w _ B hB
 refine ⟨⟨Sig.le_trans hr.le hle,fun b hb=>?_,⟨fun b cs hb=>?_,fun i e hi=>?_,hr.inv.inj⟩,hr.mine,fun s v hv=>?_,hr.defers,hr.size,hr.fra.alloc _,hr.pin⟩,hle⟩
 ·by_cases e : b = w.heap.size
  ·subst e; exact .inr (.inl hr.fra.size)
  ·simp [fI,e] at hb; exact hr.fresh b hb
 ·by_cases e : b = w.heap.size
  ·subst e
   simp only [fI,if_true,Option.some.injEq] at hb
   subst hb
   exact ⟨t,f,b5 w _⟩
  ·simp only [fI,e,if_false] at hb
   obtain ⟨t',f',hh⟩:=hr.inv.sig b cs hb
   exact ⟨t',f',(hheap b (Array.getElem?_eq_some_iff.1 hh).1).trans hh⟩
 ·have ho:=hr.inv.obj i e hi
  refine ho.ext (X:=fun _=>False) hle (Ext.refl _ _) (fun j hj=>hj.elim) rfl fun B cc hB=>⟨hheap B (ho.lt hB),?_⟩
  have : B≠w.heap.size:=by have:=ho.lt hB; simp only at this; omega
  simp [fI,this]
 ·obtain ⟨u,hu,hru⟩:=hr.slot s v hv
  exact ⟨u,hu,hru.ext hle (Ext.refl _ _) fun j hj=>hj.elim⟩
def mj(T : Tab)(t : TypeId) : Bool:=match look T t with | some ⟨.slice e,_,_,_⟩=>(match look T e with | some ⟨.int k,_,_,_⟩=>kEq k .u8 | _=>false) | _=>false
theorem rE(hT : aU P T){ops : Array Oper}{o : Oper}{rest : List Oper}{st : St}{K : St→Prop}{src dst : TypeId}{x : Operand}{s : List UInt8}
  (ho : o.op = .convert src dst x) (hg : o.guard = none) (hd : aP c.n o.dst = true) (ht : (fP T src && mj T dst) = true) (hx : ev st x = some (.one (.d (.str s)))) (hl : s.length≤2 ^ 47)
  (h : ac P c ops rest ⟨bj o.dst (.one (.d (nM s))) st.fr,st.sto⟩ K) : ac P c ops (o::rest) st K :=
 ba hg fun a w σ φ hr=>by
  rw [Bool.and_eq_true] at ht
  have hsrc:=qj hT ht.1
  have ht2:=ht.2
  unfold mj at ht2
  split at ht2 <;> (try (simp at ht2; done))
  rename_i e sz b z hlk
  split at ht2 <;> (try (simp at ht2; done))
  rename_i k sz2 b2 z2 hlk2
  obtain rfl:=fp ht2
  obtain ⟨_,u,_,_,hu,_,_,_,hk,_⟩:=(hT dst _ hlk).ex
  obtain ⟨_,u2,_,_,hu2,_,_,_,hk2,_⟩:=(hT e _ hlk2).ex
  simp only [dR] at hk hk2
  subst hk hk2
  obtain ⟨hxe,h48⟩:=zc hr hx
  have hrun:=run_bytes_of_string (P:=P) w src dst e ⟨s.toArray⟩ hsrc hu hu2
  have hsize : (⟨s.toArray⟩ : ByteArray).size = s.length:=by simp [ByteArray.size]
  rw [hsize] at hrun
  have hcap:=grownCap_ge w s.length 0 e
  obtain ⟨h1,hle⟩:=(hr.drew (w.drawn + 1) (Nat.le_succ _)).sealNew (bytesRow ⟨s.toArray⟩ (grownCap w s.length 0 e)) e ((bytesRow ⟨s.toArray⟩ (grownCap w s.length 0 e)).size,(bytesRow ⟨s.toArray⟩ (grownCap w s.length 0 e)).size + 1)
  let arr:=bytesRow ⟨s.toArray⟩ (grownCap w s.length 0 e)
  have hrep : Rep (fI σ w.heap.size arr) (nM s) (.slice (some ⟨w.heap.size,0,none⟩) s.length (grownCap w s.length 0 e)):=by
   have hln : (s.map fun b=>[D.int .u8 (b.toNat : Int)]).length = s.length:=by simp
   have:=Rep.sl (σ:=fI σ w.heap.size arr) (k:=1) (b:=1) (xs:=s.map fun b=>[D.int .u8 (b.toNat : Int)]) (A:=some ⟨w.heap.size,0,none⟩) (cap:=grownCap w s.length 0 e)
    (fun i j=>.int .u8 ((s.getD i 0).toNat : Int)) (by rw [hln]; exact hcap) (by rw [hln]; exact h48) (by rw [hln]; omega) (by intro x hx; simp only [List.mem_map] at hx; obtain ⟨b,_,rfl⟩:=hx; rfl)
    (fun h0=>⟨w.heap.size,0,arr,rfl,by simp [fI],fun i j hi hj=>by
     rw [hln] at hi
     obtain rfl : j = 0:=by omega
     have : arr = (s.map fun b=>Value.int .u8 (b.toNat : Int)).toArray ++ Array.replicate (grownCap w s.length 0 e - s.length) (.int .u8 0):=by
      show bytesRow _ _ = _
      unfold bytesRow
      rw [hsize]
      simp
     rw [this]
     simp only [Nat.zero_add,Nat.mul_one,Nat.add_zero]
     rw [Array.getElem?_append_left (by simpa using hi)]
     simp [List.getD,hi]⟩)
    (fun i j x d hx hd=>by
     simp only [List.getElem?_map,Option.map_eq_some_iff] at hx
     obtain ⟨b,hb,rfl⟩:=hx
     match j,hd with
     | 0,hd =>
       simp at hd; subst hd
       have : s.getD i 0 = b:=by simp [List.getD,hb]
       rw [this]
       refine .int ⟨?_,?_⟩
       ·simp [IntKind.min,IntKind.signed,IntKind.bits]
       ·have:=b.toNat_lt
        simp [IntKind.max,IntKind.signed,IntKind.bits]; omega
     | _ + 1,hd=>simp at hd)
   rw [hln] at this
   exact this
  exact ⟨_,_,⟨bj o.dst (.one (.d (nM s))) st.fr,st.sto⟩,_,φ,by simp [execOp,ho,hxe,hrun],h1.put (v:=.one (.d (nM s))) hd (RepC.d hrep),h⟩
theorem tU{ops : Array Oper}{o : Oper}{rest : List Oper}{st ss : St}{K : St→Prop}{f : FuncId}{caps : Array Operand}{avs : List AV}{ds : List D}(dl : List Nat)
  (ho : o.op = .makeFunc (.func f) #[] caps) (hg : o.guard = none) (hd : aP c.n o.dst = true) (hss : sealL st dl = some ss) (ha : evL ss caps.toList = some avs) (hds : jP avs = some ds)
  (h : ac P c ops rest ⟨bj o.dst (.one (.d (.fn f ds))) st.fr,dF dl st.sto⟩ K) : ac P c ops (o::rest) st K :=
 ba hg fun a w σ φ hr=>by
  obtain ⟨σs,hs,hr1⟩:=hr.given hss
  have h1:=mS hds (gm hs ha)
  refine ⟨.func (.func f) #[] (caps.toList.map a.eval).toArray,w,⟨bj o.dst (.one (.d (.fn f ds))) st.fr,dF dl st.sto⟩,σs,φ,?_,hr1.put (v:=.one (.d (.fn f ds))) hd (RepC.d (.fn _ h1.length.symm fun j d v hd hv=>?_)),h⟩
  ·have e : (caps.toList.map a.eval).toArray = caps.map a.eval:=by rw [← Array.toList_map,Array.toArray_toList]
   rw [e]
   simp [execOp,ho,Instr.makeFunc]
  ·obtain ⟨u,hu,hru⟩:=h1.get hd
   rw [hv] at hu; cases hu; exact hru
def bY(i : Nat) : List Nat→Bool
 | []=>false
 | j::r=>Nat.beq j i || bY i r
theorem memL_iff{i : Nat} : ∀ {l : List Nat},bY i l = true↔i∈l
 | []=>by simp [bY]
 | j::r=>by
   simp only [bY,Bool.or_eq_true,memL_iff (l:=r),List.mem_cons]
   exact or_congr_left ⟨fun h=>(Nat.eq_of_beq_eq_true h).symm,fun h=>by rw [h]; exact Nat.beq_refl _⟩
def cV(s : Sto) : List Nat→List Nat→List Nat
 | [],acc=>acc
 | i::r,acc=>bif bY i acc || !bf s i then cV s r acc else cV s r (acc ++ [i])
theorem kI{s s2 : Sto} : ∀ {l acc : List Nat},(∀ i∈l,look s2 i = look s i)→cV s2 l acc = cV s l acc
 | [],_,_=>rfl
 | i::r,acc,h=>by
   have h1 : bf s2 i = bf s i:=by simp [bf,h i List.mem_cons_self]
   simp only [cV,h1]
   rw [kI fun j hj=>h j (List.mem_cons_of_mem _ hj),kI fun j hj=>h j (List.mem_cons_of_mem _ hj)]
theorem lA{s : Sto}{i : Nat} : ∀ {l acc : List Nat},i∈cV s l acc→i∈l∨i∈acc
 | [],_,h=>.inr h
 | j::r,acc,h=>by
   simp only [cV] at h
   cases hb : bY j acc || !bf s j with
   | true =>
     simp only [hb,cond_true] at h
     rcases lA h with h | h
     ·exact .inl (by simp [h])
     ·exact .inr h
   | false =>
     simp only [hb,cond_false] at h
     rcases lA h with h | h
     ·exact .inl (by simp [h])
     ·simp at h
      rcases h with h | h
      ·exact .inr h
      ·exact .inl (by simp [h])
def sF(sto : Sto) : Option AV→Option Bool
 | some (.one (.d .nil))=>some true
 | some (.one (.d (.sl _ _ (_::_))))=>some false
 | some (.one (.own id _))=>match look sto id with | some (.row _ _ (_::_))=>some false | _=>none
 | _=>none
def nO : Option AV→Bool
 | some (.one (.d .nil))=>true
 | _=>false
def kr(T : Tab)(t : TypeId) : Bool:=match look T t with | some ⟨.slice _,_,_,_⟩=>true | _=>false
theorem rG(hT : aU P T){t : TypeId}(h : kr T t = true) : ∃ e,P.underlying t = some (.slice e):=by
 unfold kr at h
 split at h
 ·rename_i e sz b z hl
  obtain ⟨_,u,_,_,hu,_,_,_,hk,_⟩:=(hT t _ hl).ex
  simp only [dR] at hk
  exact ⟨e,by rw [hu,hk]⟩
 ·cases h
theorem Gy{st : St}{a : Act}(hr : Rel c st a w σ φ){x : Operand}{b : Bool}(h : sF st.sto (ev st x) = some b) : ∃ A n cap,a.eval x = .slice A n cap∧A.isNone = b:=by
 unfold sF at h
 split at h
 ·rename_i hx
  simp only [Option.some.injEq] at h; subst h
  have h1:=RepC.d_inv (aC hr hx)
  generalize a.eval x = u at h1
  cases h1
  exact ⟨none,0,0,rfl,rfl⟩
 ·rename_i k bb y ys hx
  simp only [Option.some.injEq] at h; subst h
  have h1:=RepC.d_inv (aC hr hx)
  generalize a.eval x = u at h1
  cases h1 with
  | sl vs hc h48 hb hk hA hh =>
    obtain ⟨B,o,cells,rfl,_⟩:=hA (by simp)
    exact ⟨_,_,_,rfl,rfl⟩
 ·rename_i id n hx
  split at h <;> simp at h
  rename_i k bb y ys hl
  subst h
  have h1 : RepC σ φ st.sto (.own id n) (a.eval x):=aC hr hx
  generalize a.eval x = u at h1
  cases h1 with
  | dead hxx _=>simp [bx,bP hl] at hxx
  | own hl' hn hp=>exact ⟨_,_,_,rfl,rfl⟩
  | ownNil hl' hp =>
    rw [hl] at hl'; cases hl'
    rcases hr.inv.obj _ _ hl with ⟨h2,_⟩ | ⟨B,cap,arr,t,vs,h2,_⟩
    ·cases h2
    ·rw [hp] at h2; cases h2
 ·simp at h
theorem z6(hT : aU P T){ops : Array Oper}{o : Oper}{rest : List Oper}{st : St}{K : St→Prop}{op : BinOp}{t ty : TypeId}{x y : Operand}{b e : Bool}
  (ho : o.op = .binOp op t x y ty) (hop : ij op = some e) (hg : o.guard = none) (hd : aP c.n o.dst = true) (ht : (kr T t && nO (ev st y)) = true) (hv : sF st.sto (ev st x) = some b)
  (h : ac P c ops rest ⟨bj o.dst (.one (.d (.bool (b == e)))) st.fr,st.sto⟩ K) : ac P c ops (o::rest) st K :=
 ba hg fun a w σ φ hr=>by
  rw [Bool.and_eq_true] at ht
  obtain ⟨el,hu⟩:=rG hT ht.1
  obtain ⟨A,n,cap,hx,hA⟩:=Gy hr hv
  have hy : a.eval y = .slice none 0 0:=by
   have h2:=ht.2
   unfold nO at h2
   split at h2
   ·rename_i hy
    have h1:=RepC.d_inv (aC hr hy)
    generalize a.eval y = u at h1
    cases h1; rfl
   ·cases h2
  refine ⟨.bool (b == e),w,_,σ,φ,?_,hr.put (v:=.one (.d (.bool (b == e)))) hd (RepC.d .bool),h⟩
  cases op <;> simp only [ij,Option.some.injEq,reduceCtorEq] at hop <;> subst hop
  ·simp [execOp,ho,hx,hy,bF,Lib.run_eql_slice_nil _ _ _ _ _ _ _ _ hu,hA]
  ·simp [execOp,ho,hx,hy,bF,run_neq_slice_nil_any _ _ _ _ _ _ _ _ hu,hA]
def sG(sto : Sto) : Option AV→Option Bool
 | some (.one (.d (.raw (.pointer none))))=>some true
 | some (.one (.d (.ptr _)))=>some false
 | some (.one (.ref id _))=>bif bf sto id then some false else none
 | some (.one (.rref id _ _))=>bif bf sto id then some false else none
 | _=>none
def qT : Option AV→Bool
 | some (.one (.d (.raw (.pointer none))))=>true
 | _=>false
def tV(T : Tab)(t : TypeId) : Bool:=match look T t with | some ⟨.ptr,_,_,_⟩=>true | _=>false
theorem Gz{st : St}{a : Act}(hr : Rel c st a w σ φ){x : Operand}{b : Bool}(h : sG st.sto (ev st x) = some b) : ∃ p,a.eval x = .pointer p∧p.isNone = b:=by
 unfold sG at h
 split at h
 ·rename_i hx
  simp only [Option.some.injEq] at h; subst h
  have h1:=RepC.d_inv (aC hr hx)
  generalize a.eval x = u at h1
  cases h1
  exact ⟨none,rfl,rfl⟩
 ·rename_i cs hx
  simp only [Option.some.injEq] at h; subst h
  have h1:=RepC.d_inv (aC hr hx)
  generalize a.eval x = u at h1
  cases h1
  exact ⟨_,rfl,rfl⟩
 ·rename_i id off hx
  cases hk : bf st.sto id <;> simp only [hk,cond_true,cond_false,reduceCtorEq,Option.some.injEq] at h
  subst h
  have h1 : RepC σ φ st.sto (.ref id off) (a.eval x):=aC hr hx
  generalize a.eval x = u at h1
  cases h1 with
  | dead hxx _=>simp only [bx] at hxx; rw [hk] at hxx; cases hxx
  | ref hl hp=>exact ⟨_,rfl,rfl⟩
 ·rename_i id i off hx
  cases hk : bf st.sto id <;> simp only [hk,cond_true,cond_false,reduceCtorEq,Option.some.injEq] at h
  subst h
  have h1 : RepC σ φ st.sto (.rref id i off) (a.eval x):=aC hr hx
  generalize a.eval x = u at h1
  cases h1 with
  | dead hxx _=>simp only [bx] at hxx; rw [hk] at hxx; cases hxx
  | rref hl hp=>exact ⟨_,rfl,rfl⟩
 ·simp at h
theorem zd(hT : aU P T){ops : Array Oper}{o : Oper}{rest : List Oper}{st : St}{K : St→Prop}{op : BinOp}{t ty : TypeId}{x y : Operand}{b e : Bool}
  (ho : o.op = .binOp op t x y ty) (hop : ij op = some e) (hg : o.guard = none) (hd : aP c.n o.dst = true) (ht : (tV T t && qT (ev st y)) = true) (hv : sG st.sto (ev st x) = some b)
  (h : ac P c ops rest ⟨bj o.dst (.one (.d (.bool (b == e)))) st.fr,st.sto⟩ K) : ac P c ops (o::rest) st K :=
 ba hg fun a w σ φ hr=>by
  rw [Bool.and_eq_true] at ht
  have hu : ∃ el,P.underlying t = some (.pointer el):=by
   have h1:=ht.1
   unfold tV at h1
   split at h1
   ·rename_i sz b z hl
    obtain ⟨_,u,_,_,hu,_,_,_,hk,_⟩:=(hT t _ hl).ex
    simp only [dR] at hk
    obtain ⟨e,rfl⟩:=hk
    exact ⟨e,hu⟩
   ·cases h1
  obtain ⟨el,hu⟩:=hu
  obtain ⟨p,hx,hA⟩:=Gz hr hv
  have hy : a.eval y = .pointer none:=by
   have h2:=ht.2
   unfold qT at h2
   split at h2
   ·rename_i hy
    have h1:=RepC.d_inv (aC hr hy)
    generalize a.eval y = u at h1
    cases h1; rfl
   ·cases h2
  have heq : (Op.equal t (.pointer p) (.pointer none)).run P w = .ok p.isNone w:=by
   have h1 : ∀ d,(Op.equalIn (d + 1) t (.pointer p) (.pointer none)).run P w = .ok p.isNone w:=fun d=>by
    cases p <;> simp [Op.equalIn,run_underlying hu]
   exact h1 9999
  refine ⟨.bool (b == e),w,_,σ,φ,?_,hr.put (v:=.one (.d (.bool (b == e)))) hd (RepC.d .bool),h⟩
  cases op <;> simp only [ij,Option.some.injEq,reduceCtorEq] at hop <;> subst hop
  ·simp [execOp,ho,hx,hy,bF,binOp,heq,hA]
  ·simp [execOp,ho,hx,hy,bF,binOp,heq,hA]
theorem CK{ops : Array Oper}{o : Oper}{rest : List Oper}{st ss : St}{K : St→Prop}{d id : Nat}{obj : AObj}{v : AV}(dl : List Nat)(hg : o.guard = none)(hdst : o.dst = some d)(hd : (Nat.blt d c.n && Nat.blt id 1000000) = true)
  (hss : sealL st dl = some ss) (hm1 : bn id st.fr = false) (hm2 : aM id (dF dl st.sto) = false)
  (H : ∀ (a : Act) (w : World) (σ : Sig) (φ : Pl),Rel c ss a w σ φ→∃ (u : Value) (arr : Array Value) (t : TypeId) (cap : Nat),(execOp a.eval o).run P w = .ok (.value u) (w.alloc (.cells arr t)) ∧
   ∀ sto',ObjRep σ (bL φ id (some (w.heap.size,cap))) ((id,obj)::sto') (w.alloc (.cells arr t)) id obj∧RepV σ (bL φ id (some (w.heap.size,cap))) ((id,obj)::sto') v u)
  (h : ac P c ops rest ⟨(d,v)::st.fr,(id,obj)::dF dl st.sto⟩ K) : ac P c ops (o::rest) st K :=
 ba hg fun a w σ φ hr0=>by
  obtain ⟨σs,hs,hr⟩:=hr0.given hss
  obtain ⟨u,arr,t,cap,hrun,hboth⟩:=H a w σs φ hs
  obtain ⟨hobj,hv⟩:=hboth (dF dl st.sto)
  refine ⟨u,_,_,σs,bL φ id (some (w.heap.size,cap)),hrun,?_,h⟩
  rw [hdst]
  simp only [Bool.and_eq_true] at hd
  have hd' : aP c.n (some d) = true:=hd.1
  refine hr.putTo (dst:=some d) (st':=⟨st.fr,(id,obj)::dF dl st.sto⟩) hd' hr.le hr.fresh (hr.inv.add hm2 hobj) ?_ (hr.fra.alloc _) (fun i hi=>by
   have : i≠id:=by have:=Nat.le_of_ble_eq_true hd.2; omega
   rw [aZ this]; exact hr.pin i hi) (fun _=>hv) ?_
  ·intro i e p hi hp
   rcases ah hi with ⟨rfl,rfl⟩ | ⟨hne,hi⟩
   ·rw [aK] at hp; cases hp; exact .inl hr.fra.size
   ·rw [aZ hne] at hp; exact hr.mine _ _ _ hi hp
  ·intro s x _ hx
   exact ⟨x,hx,fun z hz=>hz.ext (Sig.le_refl _) Ext.add fun j hj=>by cases hj; exact dy hm1 hx⟩
theorem rc(hT : aU P T){ops : Array Oper}{o : Oper}{rest : List Oper}{st ss : St}{K : St→Prop}{d id n k b : Nat}{t e : TypeId}{z : List D}{parts : Array (Nat×Operand)}{xs : List (List D)}(dl : List Nat)
  (ho : o.op = .buildSlice t n parts) (hg : o.guard = none) (hdst : o.dst = some d) (hd : (Nat.blt d c.n && Nat.blt id 1000000) = true) (hss : sealL st dl = some ss) (ht : aR T t = some (e,k,b,z))
  (hp : dA ss k 0 parts.toList = some xs) (hn : Nat.beq parts.toList.length n = true) (hbig : (Nat.ble (n * k) 1000000 && Nat.ble (n * b) 1000000 && Nat.ble n 1000000) = true)
  (hm1 : bn id st.fr = false) (hm2 : aM id (dF dl st.sto) = false)
  (h : ac P c ops rest ⟨(d,.one (.own id n))::st.fr,(id,.row k b xs)::dF dl st.sto⟩ K) : ac P c ops (o::rest) st K:=by
 refine CK dl hg hdst hd hss hm1 hm2 (fun a w σ φ hr=>?_) h
 obtain ⟨i,zv,hu,hi,rfl,rfl,hz,hzc,hzb,hzl⟩:=de hT ht
 have hnl:=Nat.eq_of_beq_eq_true hn
 simp only [Bool.and_eq_true,Nat.ble_eq] at hbig
 obtain ⟨⟨hb1,hb2⟩,hb3⟩:=hbig
 obtain ⟨hl,hlk⟩:=oQ hp
 have hxn : xs.length = n:=by omega
 have hz0:=nj (σ:=σ) (φ:=φ) (sto:=ss.sto) hzc hzb hzl n
 obtain ⟨cells',h1,h2⟩:=oR hr (k:=i.size) parts.toList 0 xs [] ((List.replicate n z).flatten.map .d) ((Array.range (n * i.size)).map (fun j=>zv.cells[j % zv.cells.size]!)) hp rfl (by simp)
  (by rw [List.length_map,bU (k:=i.size) (by intro x hx; rw [List.eq_of_mem_replicate hx]; exact hzl)]; simp [hnl]) (by simpa using hz0)
 have hdrop : ((List.replicate n z).flatten.map AC.d).drop (parts.toList.length * i.size) = []:=by
  apply List.drop_of_length_le
  rw [List.length_map,bU (k:=i.size) (by intro x hx; rw [List.eq_of_mem_replicate hx]; exact hzl)]
  simp only [List.length_replicate,hnl]; exact Nat.le_refl _
 rw [hdrop,List.append_nil,List.nil_append] at h2
 have h2':=mw h2
 have hsz : cells'.size = n * i.size:=by
  have:=h2'.length
  rw [bU hlk,hxn] at this
  simpa using this.symm
 refine ⟨.slice (some ⟨w.heap.size,0,none⟩) n n,cells',e,n,?_,fun sto'=>⟨ObjRep.mk_row (B:=w.heap.size) (cap:=n) aK (b5 w _) hsz (by omega) (by omega) ?_ hlk h2' (fun j u hu=>by simpa using hu) (il hr.inv),?_⟩⟩
 ·have hbig' : ¬ (n * i.size > 2 ^ 24):=by omega
  have hpm : (parts.map fun (x : Nat×Operand)=>(x.1,a.eval x.2)).toList = parts.toList.map fun p=>(p.1,a.eval p.2):=by simp
  simp only [execOp,ho,Instr.buildSlice,Sem.run_bind,run_underlying hu,Result.andThen_ok,bI hi,if_neg hbig']
  by_cases h0 : n * i.size = 0
  ·have e0 : ∀ f : Nat→Value,(Array.range (n * i.size)).map f = #[]:=by rw [h0]; intro f; simp
   rw [e0] at h1
   simp only [if_pos h0,Sem.run_bind,Sem.run_pure,Result.andThen_ok,e0,hpm,h1]
   simp [newRow]
  ·simp only [if_neg h0,Sem.run_bind,d6 hi hz,Sem.run_pure,Result.andThen_ok,hpm,h1]
   simp [newRow]
 ·rw [hxn]; omega
 ·have:=RepC.own (σ:=σ) (φ:=bL φ id (some (w.heap.size,n))) (sto:=(id,.row i.size i.bytes xs)::sto') (id:=id) (n:=n) (B:=w.heap.size) (cap:=n) aI (by omega) aK
  exact this
def mm(os : List (Nat×AObj))(st : St)(k : Nat) : Nat→List (Nat×Operand)→Option (List (List D))
 | _,[]=>some []
 | i,(j,x)::r=>bif Nat.beq i j then (match evS os st x with
   | some v=>(match cellsOf v with
     | some cs=>(match eL cs with
       | some ds=>bif Nat.beq ds.length k then (match mm os st k (i + 1) r with | some l=>some (ds::l) | none=>none) else none
       | none=>none)
     | none=>none)
   | none=>none) else none
theorem wt{os : List (Nat×AObj)}{st ss : St}{k : Nat}(h : ∀ x,ev ss x = evS os st x) : ∀ {parts : List (Nat×Operand)} {i : Nat},dA ss k i parts = mm os st k i parts
 | [],_=>rfl
 | (j,x)::r,i=>by simp only [dA,mm,h x,wt h (parts:=r)]; rfl
theorem rH{os : List (Nat×AObj)}{st st2 : St}{k : Nat} : ∀ {parts : List (Nat×Operand)} {i : Nat},(∀ p∈parts,ev st2 p.2 = ev st p.2)→mm os st2 k i parts = mm os st k i parts
 | [],_,_=>rfl
 | (j,x)::r,i,h=>by
   have h1:=h (j,x) List.mem_cons_self
   simp only at h1
   simp only [mm,evS,h1,rH (parts:=r) fun p hp=>h p (List.mem_cons_of_mem _ hp)]
theorem uZ(hT : aU P T){ops : Array Oper}{o : Oper}{rest : List Oper}{st : St}{K : St→Prop}{t : TypeId}{x : Operand}{id off n s : Nat}{cells : List AC}
  (ho : o.op = .slice t x none none none) (hg : o.guard = none) (hd : aP c.n o.dst = true) (ht : oq T t = some (n,s)) (hx : ev st x = some (.one (.ref id off))) (hl : look st.sto id = some (.box cells))
  (h : ac P c ops rest ⟨bj o.dst (.one (.bsl id off n)) st.fr,st.sto⟩ K) : ac P c ops (o::rest) st K :=
 ba hg fun a w σ φ hr=>by
  obtain ⟨e,i,hu,hi,_⟩:=ze hT ht
  have h1 : RepC σ φ st.sto (.ref id off) (a.eval x):=aC hr hx
  generalize hux : a.eval x = ux at h1
  cases h1 with
  | dead hxx _=>simp [bx,bP hl] at hxx
  | ref hl' hp =>
    rename_i B cap cs
    refine ⟨.slice (some ⟨B,off,none⟩) n n,w,_,σ,φ,?_,hr.put (v:=.one (.bsl id off n)) hd (RepC.bsl hl hp),h⟩
    simp [execOp,ho,hux,Instr.sliceAt,Instr.sureAddr,run_underlying hu,Instr.sliceBounds,bI hi,ff]
theorem z7(hT : aU P T){ops : Array Oper}{o : Oper}{rest : List Oper}{st : St}{K : St→Prop}{t t2 e e2 k b k2 b2 id off n : Nat}{z z2 : List D}{x y : Operand}{v : AV}{cells cells' : List AC}{ys : List (List D)}
  (ho : o.op = .call { callee:=.builtin .copy,args:=#[x,y],argTypes:=#[t,t2] }) (hg : o.guard = none) (hd : aP c.n o.dst = true) (ht : aR T t = some (e,k,b,z)) (ht2 : aR T t2 = some (e2,k2,b2,z2))
  (hx : ev st x = some (.one (.bsl id off n))) (hl : look st.sto id = some (.box cells)) (hy : ev st y = some v) (hs : eI st k v = some ys) (hn : ys.length≤n) (h48 : ys.length < 2 ^ 48) (hsp : cM off (ys.flatten.map .d) cells = some cells')
  (h : ac P c ops rest ⟨bj o.dst (.one (.d (.int .i64 ys.length))) st.fr,bH id (.box cells') st.sto⟩ K) : ac P c ops (o::rest) st K :=
 ba hg fun a w σ φ hr=>by
  obtain ⟨i,zv,hu,hi,rfl,_⟩:=de hT ht
  obtain ⟨us,hsrc⟩:=Al hs hr.inv (aC hr hy)
  obtain ⟨⟨A,c',hux⟩,hfirst,hrep,hlen,hone⟩:=hsrc
  have h1 : RepC σ φ st.sto (.bsl id off n) (a.eval x):=aC hr hx
  generalize huxe : a.eval x = ux at h1
  obtain ⟨he,hle⟩:=jk hsp
  cases h1 with
  | dead hxx _=>simp [bx,bP hl] at hxx
  | bsl hl' hp =>
    rename_i B cap cs
    rw [hl] at hl'; cases hl'
    obtain ⟨B',c2,vs,ty,hp',hh,ha,hσ⟩:=hr.inv.obj _ _ hl
    rw [hp] at hp'; cases hp'
    have hlen2:=ha.length
    have hul : us.length = (ys.flatten.map AC.d).length:=by rw [List.length_map]; exact hrep.length.symm
    have hst:=run_storeCells_at P B off ty us 0 vs.toArray w hh (by simp; omega) hone
    simp only [Nat.add_zero] at hst
    have hE : Ext (fun _=>False) φ φ st.sto ((id,.box cells')::st.sto):=Ext.upd hl trivial
    obtain ⟨σ',φ',hr'⟩:=hr.write (o':=.box cells') (arr':=(vs.take off ++ us ++ vs.drop (off + us.length)).toArray) hl hp hh trivial
     ⟨B,cap,_,ty,hp,setRow_heap w B _ _ ty _ hh,jb (Sig.le_refl _) hE (fun j hj=>by cases hj) (by
      rw [he]
      have h2 : All2 (RepC σ φ st.sto) (ys.flatten.map .d) us:=hrep.map_d
      rw [← hul]
      exact ((ha.take off).append h2).append (ha.drop _)),hσ⟩
    refine ⟨.int .i64 ys.length,_,_,σ',φ',?_,hr'.put (v:=.one (.d (.int .i64 ys.length))) hd (RepC.d (.int (pi h48))),h⟩
    have hmin : Nat.min ys.length n = ys.length:=Nat.min_eq_left hn
    have hf:=hfirst P w rfl
    rw [hux] at hf
    have hmin2 : min ys.length n = ys.length:=Nat.min_eq_left hn
    have hc : (Builtin.copy_ #[t,t2] o.type #[.slice (some ⟨B,off,none⟩) n n,a.eval y]).run P w = .ok (.int .i64 ys.length) (w.setRow B (vs.take off ++ us ++ vs.drop (off + us.length)).toArray):=by
     rw [hux]
     simp [Builtin.copy_,run_underlying hu,Builtin.lenOf,hmin2,bI hi,hf,hst,goInt]
    simp [execOp,ho,resolve,invoke,builtin,huxe,hc]
def eu(st : St)(k n : Nat)(acc : List AC) : List (Nat×Operand)→Option (List AC)
 | []=>some acc
 | (i,x)::r=>match ev st x with
   | some v=>match cellsOf v with
     | some cs=>bif Nat.beq cs.length k && Nat.blt i n then (match cM (i * k) cs acc with | some acc'=>eu st k n acc' r | none=>none) else none
     | none=>none
   | none=>none
def CL(T : Tab)(t : TypeId) : Option (Nat×Nat×List D) :=
 match look T t with
 | some ⟨.array n e,_,_,z⟩=>(match look T e with | some td=>some (n,td.size,z) | none=>none)
 | _=>none
theorem rI{st : St}{a : Act}(hrel : Rel c st a w σ φ){k n : Nat} :
  ∀ (parts : List (Nat×Operand)) (acc cs : List AC) (cells : Array Value),eu st k n acc parts = some cs→All2 (RepC σ φ st.sto) acc cells.toList →
    ∃ cells' : Array Value,Instr.fill (fun i=>some (i * k,k)) cells (parts.map fun p=>(p.1,a.eval p.2)) = some cells'∧All2 (RepC σ φ st.sto) cs cells'.toList
 | [],acc,cs,cells,h,ha=>by
   simp [eu] at h; subst h
   exact ⟨cells,rfl,ha⟩
 | (i,x)::parts,acc,cs,cells,h,ha=>by
   simp only [eu] at h
   split at h <;> (try (simp at h; done))
   rename_i v hx
   split at h <;> (try (simp at h; done))
   rename_i cs' hcs
   cases hb : Nat.beq cs'.length k && Nat.blt i n <;> simp only [hb,cond_true,cond_false,reduceCtorEq] at h
   simp only [Bool.and_eq_true] at hb
   split at h <;> (try (simp at h; done))
   rename_i acc' hsp
   have hk:=Nat.eq_of_beq_eq_true hb.1
   obtain ⟨cells1,h1,_,h3⟩:=pY (σ:=σ) (φ:=φ) (sto:=st.sto) (fun i=>some (i * k,k)) (i:=i) (o:=i * k) (acc:=acc) (cs:=cs') (acc':=acc') (cells:=cells) (u:=a.eval x) (rest:=parts.map fun p=>(p.1,a.eval p.2))
    (by rw [hk]) hsp (gi hcs (aC hrel hx)) ha
   obtain ⟨tJ,h4,h5⟩:=rI hrel parts acc' cs cells1 h h1
   exact ⟨tJ,by rw [List.map_cons,h3,h4],h5⟩
theorem zf(hT : aU P T){ops : Array Oper}{o : Oper}{rest : List Oper}{st : St}{K : St→Prop}{t : TypeId}{parts : Array (Nat×Operand)}{n k : Nat}{z : List D}{cs : List AC}
  (ho : o.op = .build t parts) (hg : o.guard = none) (hd : aP c.n o.dst = true) (ht : CL T t = some (n,k,z)) (hv : eu st k n (z.map .d) parts.toList = some cs)
  (h : ac P c ops rest ⟨bj o.dst (.agg cs) st.fr,st.sto⟩ K) : ac P c ops (o::rest) st K :=
 ba hg fun a w σ φ hr=>by
  unfold CL at ht
  split at ht <;> (try (simp at ht; done))
  rename_i n' e sz b z' hta
  split at ht <;> (try (simp at ht; done))
  rename_i td hte
  simp only [Option.some.injEq,Prod.mk.injEq] at ht
  obtain ⟨rfl,rfl,rfl⟩:=ht
  obtain ⟨i,u,zv,hi,hu,hs,_,hz,hk,hzc,hzb,_,hza,_⟩:=(hT t _ hta).ex
  simp only [dR] at hk; subst hk
  obtain ⟨i2,_,_,hi2,_,hs2,_⟩:=(hT e td hte).ex
  have hzr : All2 (RepC σ φ st.sto) (z'.map .d) zv.cells.toList:=by
   rw [hzc]; exact rU hzb
  obtain ⟨cells',h1,h2⟩:=rI hr (k:=td.size) (n:=n') parts.toList (z'.map .d) cs zv.cells hv hzr
  refine ⟨.agg cells',w,_,σ,φ,?_,hr.put (v:=.agg cs) hd ⟨cells'.toList,by simp,h2⟩,h⟩
  have e1 : (parts.map fun (x : Nat×Operand)=>(x.1,a.eval x.2)).toList = parts.toList.map fun p=>(p.1,a.eval p.2):=by simp
  simp only [execOp,ho,Instr.build,Sem.run_bind,d6 hi hz,Result.andThen_ok,run_underlying hu,bI hi2,hs2]
  rw [e1,h1]
  rfl
end Go.Abs
namespace Go.Abs
open Go
variable {P : Program} {c : Ctx} {T : Tab} {σ : Sig} {φ : Pl} {w : World}
abbrev BD:=List (Nat×MTy)
structure Env where
 T : Tab
 E : rS
 M : BD
structure EnvOk (P : Program) (V : Env) : Prop where
 T : aU P V.T
 E : xn P V.E
 M : ∀ t m,look V.M t = some m→MOk P t m
def bEq : Bool→Bool→Bool
 | true,true | false,false=>true
 | _,_=>false
theorem gI{a b : Bool}(h : bEq a b = true) : a = b:=by cases a <;> cases b <;> first | rfl | simp [bEq] at h
def KM(T : Tab)(t : TypeId) : Option (Nat×Bool×Nat) :=
 match look T t with
 | some ⟨.array n e,_,_,_⟩=>(match look T e with | some td=>some (n,td.kind.isAgg,td.size) | none=>none)
 | _=>none
def xu(T : Tab)(t : TypeId) : Option AV→Option AV→Option AV
 | some (.one (.d (.int _ n))),some (.agg cs)=>match KM T t with
   | some (m,g,s)=>bif decide (0≤n) && decide (n < (m : Int)) && Nat.blt 0 s then eX g s (cs.drop (n.toNat * s)) else none
   | none=>none
 | _,_=>none
theorem GP(hT : aU P T){e : TypeId}{td : TD}(he : look T e = some td){off : Nat}{cs : List AC}{v : AV}{sto : Sto}(h0 : 0 < td.size)(hv : eX td.kind.isAgg td.size (cs.drop off) = some v)
  {vs : List Value} (hr : All2 (RepC σ φ sto) cs vs) : ∃ u,(part e vs.toArray off).run P w = .ok u w∧RepV σ φ sto v u:=by
 obtain ⟨i,u,z,hi,hu,hs,hby,hz,hk,_⟩:=(hT e td he).ex
 have hg:=pB hk
 cases hag : cK u with
 | true =>
   rw [← hg,hag,← hs] at hv
   have h1 : (isAgg e).run P w = .ok true w:=by
    unfold isAgg
    cases u <;> simp [cK] at hag <;> simp [run_underlying hu]
   obtain ⟨hl,hrv⟩:=pc hv (hr.drop off)
   refine ⟨_,by simp [part,h1,sizeOf,typeInfo,hi]; rfl,?_⟩
   have e : List.extract vs off (off + i.size) = (vs.drop off).take i.size:=by
    simp [List.extract_eq_take_drop]
   simpa [e] using hrv
 | false =>
   rw [← hg,hag] at hv
   have h1 : (isAgg e).run P w = .ok false w:=by
    unfold isAgg
    cases u <;> simp [cK] at hag <;> simp [run_underlying hu]
   obtain ⟨x,hx,hrv⟩:=pd hv (hr.drop off)
   have hx' : vs[off]? = some x:=by simpa [List.getElem?_drop] using hx
   exact ⟨x,by simp [part,h1,hx'],hrv⟩
theorem C6(hT : aU P T){ops : Array Oper}{o : Oper}{rest : List Oper}{st : St}{K : St→Prop}{t : TypeId}{x y : Operand}{v : AV}
  (ho : o.op = .index t x y) (hg : o.guard = none) (hd : aP c.n o.dst = true) (hv : xu T t (ev st y) (ev st x) = some v)
  (h : ac P c ops rest ⟨bj o.dst v st.fr,st.sto⟩ K) : ac P c ops (o::rest) st K :=
 ba hg fun a w σ φ hr=>by
  unfold xu at hv
  split at hv <;> (try (simp at hv; done))
  rename_i ik n cs hy hx
  split at hv <;> (try (simp at hv; done))
  rename_i m g s ht
  unfold KM at ht
  split at ht <;> (try (simp at ht; done))
  rename_i n' e sz bb z hta
  split at ht <;> (try (simp at ht; done))
  rename_i td hte
  simp only [Option.some.injEq,Prod.mk.injEq] at ht
  obtain ⟨rfl,rfl,rfl⟩:=ht
  cases hb : decide (0≤n) && decide (n < (n' : Int)) && Nat.blt 0 td.size <;> simp only [hb,cond_true,cond_false,reduceCtorEq] at hv
  simp only [Bool.and_eq_true,decide_eq_true_eq,Nat.blt_eq] at hb
  obtain ⟨i,u,z',hi,hu,_,_,_,hk,_⟩:=(hT t _ hta).ex
  simp only [dR] at hk; subst hk
  obtain ⟨i2,_,_,hi2,_,hs2,_⟩:=(hT e td hte).ex
  obtain ⟨vs,hvs,hrs⟩:=aC hr hx
  have hyr:=RepC.d_inv (aC hr hy)
  generalize hye : a.eval y = yv at hyr
  cases hyr
  obtain ⟨u,hu',hru⟩:=GP (P:=P) (w:=w) hT hte (off:=n.toNat * td.size) hb.2 hv hrs
  refine ⟨u,w,_,σ,φ,?_,hr.put hd hru,h⟩
  have hlt : (0≤n∧n < (n' : Int)):=hb.1
  simp only [execOp,ho,hvs,hye,Instr.index,asIntOf,Sem.run_bind,Sem.run_pure,Result.andThen_ok,run_underlying hu,if_pos hlt,bI hi2,hs2,hu']
def aQ(V : Env)(st : St)(o : Oper)(id : Nat) : Option Ef :=
 match cF V.T st o id with
 | some e=>some e
 | none=>match o.op with
   | .binOp op t x y _=>(match ij op,Fm V.E t (ev st x) (ev st y) with
     | some e,some b=>some ⟨.one (.d (.bool (b == e))),[],[]⟩
     | _,_=>(match uU op (ev st x) (ev st y) with
       | some d=>some ⟨.one (.d d),[],[]⟩
       | none=>(match ij op,sF st.sto (ev st x),sG st.sto (ev st x) with
         | some e,some b,_=>bif kr V.T t && nO (ev st y) then some ⟨.one (.d (.bool (b == e))),[],[]⟩ else none
         | some e,none,some b=>bif tV V.T t && qT (ev st y) then some ⟨.one (.d (.bool (b == e))),[],[]⟩ else none
         | _,_,_=>none)))
   | .convert src dst x=>(match ev st x with
     | some (.one (.d (.str s)))=>bif fP V.T src && mj V.T dst && Nat.ble s.length 1000000 then some ⟨.one (.d (nM s)),[],[]⟩ else none
     | _=>none)
   | .makeFunc (.func f) ⟨[]⟩ caps=>(match dx st.sto (cV st.sto (bZ st caps.toList) []) with
     | some os=>(match jZ os st caps.toList with
       | some avs=>(match jP avs with | some ds=>some ⟨.one (.d (.fn f ds)),n8 (cV st.sto (bZ st caps.toList) []),[]⟩ | none=>none)
       | none=>none)
     | none=>none)
   | .slice t x none none none=>(match oq V.T t,ev st x with
     | some (n,_),some (.one (.ref i off))=>(match look st.sto i with
       | some (.box _)=>some ⟨.one (.bsl i off n),[],[]⟩
       | _=>none)
     | _,_=>none)
   | .call { callee:=.builtin .copy,args:=⟨[x,y]⟩,argTypes:=⟨[t,t2]⟩ }=>(match aR V.T t,aR V.T t2,ev st x,ev st y with
     | some (_,k,_,_),some _,some (.one (.bsl i off n)),some v=>(match look st.sto i,eI st k v with
       | some (.box cells),some ys=>(match cM off (ys.flatten.map .d) cells with
         | some cells'=>bif Nat.ble ys.length n && Nat.ble ys.length 1000000 then some ⟨.one (.d (.int .i64 ys.length)),[(i,some (.box cells'))],[]⟩ else none
         | none=>none)
       | _,_=>none)
     | _,_,_,_=>none)
   | .buildSlice t n parts=>(match dx st.sto (cV st.sto (bZ st (parts.toList.map (·.2))) []),aR V.T t with
     | some os,some (_,k,b,_)=>(match mm os st k 0 parts.toList with
       | some xs=>bif gq o.dst && (Nat.beq parts.toList.length n && (Nat.ble (n * k) 1000000 && Nat.ble (n * b) 1000000 && Nat.ble n 1000000)) then some ⟨.one (.own id n),(id,some (.row k b xs))::n8 (cV st.sto (bZ st (parts.toList.map (·.2))) []),[id]⟩ else none
       | none=>none)
     | _,_=>none)
   | .build t parts=>(match CL V.T t with
     | some (n,k,z)=>(match eu st k n (z.map .d) parts.toList with | some cs=>some ⟨.agg cs,[],[]⟩ | none=>none)
     | none=>none)
   | .index t x y=>(match xu V.T t (ev st y) (ev st x) with | some v=>some ⟨v,[],[]⟩ | none=>none)
   | .makeMap t none=>(match look V.M t with
     | some m=>bif gq o.dst then some ⟨.one (.mapr id),[(id,some (.map m.kg m.vg []))],[id]⟩ else none
     | none=>none)
   | .lookup t x y ok=>(match look V.M t,ev st x,ev st y with
     | some m,some (.one (.mapr i)),some ky=>(match look st.sto i,kY m.kg ky with
       | some (.map kg vg es),some kd=>bif bEq kg m.kg && bEq vg m.vg && (eR m.ks kd && fL m.ks es) then (match qM m es kd ok with | some v=>some ⟨v,[],[]⟩ | none=>none) else none
       | _,_=>none)
     | _,_,_=>none)
   | .mapUpdate t x y z=>(match look V.M t,ev st x,ev st y,ev st z with
     | some m,some (.one (.mapr i)),some ky,some vl=>(match look st.sto i,kY m.kg ky,kY m.vg vl with
       | some (.map kg vg es),some kd,some vd=>bif bEq kg m.kg && bEq vg m.vg && (eR m.ks kd && fL m.ks es) && !gq o.dst then some ⟨.any,[(i,some (.map m.kg m.vg (gx kd vd es)))],[]⟩ else none
       | _,_,_=>none)
     | _,_,_,_=>none)
   | _=>none
theorem oO{V : Env}(hV : EnvOk P V){o : Oper}{st : St}{id : Nat}{e : Ef}(hd : aP c.n o.dst = true)(h : aQ V st o id = some e)(hid : Nat.blt (id + 1) 1000000 = true)(hf : nt st e.new) : jI P c o st e:=by
 unfold aQ at h
 split at h
 ·rename_i e' he
  simp only [Option.some.injEq] at h; subst h
  exact FB hV.T hd he hid hf
 split at h
 ·rename_i op t x y ty ho
  split at h
  ·rename_i e' b h1 h2
   simp only [Option.some.injEq] at h; subst h
   intro ops rest K hk
   exact DC hV.E (o:={ o with guard:=none }) ho h1 rfl hd h2 hk
  ·split at h
   ·rename_i d hdv
    simp only [Option.some.injEq] at h; subst h
    intro ops rest K hk
    exact EP (o:={ o with guard:=none }) ho rfl hd hdv hk
   ·split at h <;> (try (simp at h; done))
    ·rename_i e' b h1 h2
     cases hb : kr V.T t && nO (ev st y) <;> simp only [hb,cond_true,cond_false,reduceCtorEq,Option.some.injEq] at h
     subst h
     intro ops rest K hk
     exact z6 hV.T (o:={ o with guard:=none }) ho h1 rfl hd hb h2 hk
    ·rename_i e' b h1 h2 h3
     cases hb : tV V.T t && qT (ev st y) <;> simp only [hb,cond_true,cond_false,reduceCtorEq,Option.some.injEq] at h
     subst h
     intro ops rest K hk
     exact zd hV.T (o:={ o with guard:=none }) ho h1 rfl hd hb h3 hk
 ·rename_i src dst x ho
  split at h <;> (try (simp at h; done))
  rename_i s hx
  cases hb : fP V.T src && mj V.T dst && Nat.ble s.length 1000000 <;> simp only [hb,cond_true,cond_false,reduceCtorEq,Option.some.injEq] at h
  subst h
  rw [Bool.and_eq_true] at hb
  have hl:=Nat.le_of_ble_eq_true hb.2
  intro ops rest K hk
  exact rE hV.T (o:={ o with guard:=none }) ho rfl hd hb.1 hx (by omega) hk
 ·rename_i f caps ho
  split at h <;> (try (simp at h; done))
  rename_i os hos
  split at h <;> (try (simp at h; done))
  rename_i avs ha
  split at h <;> simp at h
  rename_i ds hds
  subst h
  intro ops rest K hk
  obtain ⟨ss,h1,h2⟩:=ii hos
  refine tU (o:={ o with guard:=none }) _ ho rfl hd h1 ((lO h2).trans ha) hds ?_
  rw [jY] at hk
  exact hk
 ·rename_i t x ho
  split at h <;> (try (simp at h; done))
  rename_i n s i off ht hx
  split at h <;> simp at h
  rename_i cells hl
  subst h
  intro ops rest K hk
  exact uZ hV.T (o:={ o with guard:=none }) ho rfl hd ht hx hl hk
 ·rename_i x y t t2 ho
  split at h <;> (try (simp at h; done))
  rename_i e1 k b z q i off n v ht ht2 hx hy
  obtain ⟨q1,q2,q3,q4⟩:=q
  split at h <;> (try (simp at h; done))
  rename_i cells ys hl hs
  split at h <;> (try (simp at h; done))
  rename_i cells' hsp
  cases hb : Nat.ble ys.length n && Nat.ble ys.length 1000000 <;> simp only [hb,cond_true,cond_false,reduceCtorEq,Option.some.injEq] at h
  subst h
  simp only [Bool.and_eq_true,Nat.ble_eq] at hb
  intro ops rest K hk
  exact z7 hV.T (o:={ o with guard:=none }) ho rfl hd ht ht2 hx hl hy hs hb.1 (by omega) hsp hk
 ·rename_i t n parts ho
  split at h <;> (try (simp at h; done))
  rename_i os e k b z hos ht
  split at h <;> (try (simp at h; done))
  rename_i xs hxs
  cases hb : gq o.dst && (Nat.beq parts.toList.length n && (Nat.ble (n * k) 1000000 && Nat.ble (n * b) 1000000 && Nat.ble n 1000000)) <;> simp only [hb,cond_true,cond_false,reduceCtorEq,Option.some.injEq] at h
  subst h
  rw [Bool.and_eq_true,Bool.and_eq_true] at hb
  obtain ⟨hD,hb1,hb2⟩:=hb
  intro ops rest K hk
  obtain ⟨d,hdst⟩ : ∃ d,o.dst = some d:=by
   cases h : o.dst with
   | none=>simp [h,gq] at hD
   | some d=>exact ⟨d,rfl⟩
  obtain ⟨f1,f2,f3⟩:=hf id (by simp)
  obtain ⟨ss,h1,h2⟩:=ii hos
  rw [hdst] at hk hd
  refine rc hV.T (o:={ o with guard:=none }) _ ho rfl hdst ?_ h1 ht ((wt h2).trans hxs) hb1 hb2 f2 (nc f3) (kP ?_)
  ·simp only [Bool.and_eq_true]
   refine ⟨hd,?_⟩
   have:=Nat.le_of_ble_eq_true hid
   show Nat.ble _ _ = true
   rw [Nat.ble_eq]; omega
  ·simp only [cC,jY] at hk
   exact hk
 ·rename_i t parts ho
  split at h <;> (try (simp at h; done))
  rename_i n k z ht
  split at h <;> simp at h
  rename_i cs hcs
  subst h
  intro ops rest K hk
  exact zf hV.T (o:={ o with guard:=none }) ho rfl hd ht hcs hk
 ·rename_i t x y ho
  split at h <;> simp at h
  rename_i v hv
  subst h
  intro ops rest K hk
  exact C6 hV.T (o:={ o with guard:=none }) ho rfl hd hv hk
 ·rename_i t ho
  split at h <;> (try (simp at h; done))
  rename_i m hm
  cases hD : gq o.dst <;> simp only [hD,cond_true,cond_false,reduceCtorEq,Option.some.injEq] at h
  subst h
  intro ops rest K hk
  obtain ⟨d,hdst⟩ : ∃ d,o.dst = some d:=by
   cases h : o.dst with
   | none=>simp [h,gq] at hD
   | some d=>exact ⟨d,rfl⟩
  obtain ⟨f1,f2,f3⟩:=hf id (by simp)
  rw [hdst] at hk hd
  refine wI (o:={ o with guard:=none }) m.kg m.vg ho rfl hdst ?_ f2 f3 (kP ?_)
  ·simp only [Bool.and_eq_true]
   refine ⟨hd,?_⟩
   have:=Nat.le_of_ble_eq_true hid
   show Nat.ble _ _ = true
   rw [Nat.ble_eq]; omega
  ·exact hk
 ·rename_i t x y ok ho
  split at h <;> (try (simp at h; done))
  rename_i m i ky hm hx hy
  split at h <;> (try (simp at h; done))
  rename_i kg vg es kd hl hk
  cases hb : bEq kg m.kg && bEq vg m.vg && (eR m.ks kd && fL m.ks es) <;> simp only [hb,cond_true,cond_false,reduceCtorEq] at h
  simp only [Bool.and_eq_true] at hb
  split at h <;> simp at h
  rename_i v hv
  subst h
  obtain rfl:=gI hb.1.1
  obtain rfl:=gI hb.1.2
  intro ops rest K hk'
  exact pW (hV.M t m hm) (o:={ o with guard:=none }) ho rfl hd hx hl hy hk hb.2.1 hb.2.2 hv hk'
 ·rename_i t x y z ho
  split at h <;> (try (simp at h; done))
  rename_i m i ky vl hm hx hy hz
  split at h <;> (try (simp at h; done))
  rename_i kg vg es kd vd hl hk hv
  cases hb : bEq kg m.kg && bEq vg m.vg && (eR m.ks kd && fL m.ks es) && !gq o.dst <;> simp only [hb,cond_true,cond_false,reduceCtorEq,Option.some.injEq] at h
  simp only [Bool.and_eq_true,Bool.not_eq_true'] at hb
  subst h
  obtain rfl:=gI hb.1.1.1
  obtain rfl:=gI hb.1.1.2
  have hdst : o.dst = none:=by
   have h2:=hb.2
   cases h : o.dst <;> simp [h,gq] at h2 ⊢
  intro ops rest K hk'
  rw [hdst] at hk'
  exact mP (hV.M t m hm) (o:={ o with guard:=none }) ho rfl hdst hx hl hy hk hb.1.2.1 hb.1.2.2 hz hv hk'
 ·simp at h
theorem Fb{s s2 : Sto}{vx : Option AV}(h : ∀ v,vx = some v→∀ i∈bK v,look s2 i = look s i) : sF s2 vx = sF s vx:=by
 unfold sF
 split
 ·rfl
 ·rfl
 ·rw [h _ rfl _ (by simp [bK,eb])]
 ·rfl
theorem Fc{s s2 : Sto}{vx : Option AV}(h : ∀ v,vx = some v→∀ i∈bK v,look s2 i = look s i) : sG s2 vx = sG s vx:=by
 unfold sG
 split
 ·rfl
 ·rfl
 ·rw [kZ (h _ rfl _ (by simp [bK,eb]))]
 ·rw [kZ (h _ rfl _ (by simp [bK,eb]))]
 ·rfl
theorem qp{st st2 : St}{k n : Nat} : ∀ {parts : List (Nat×Operand)} {acc : List AC},(∀ p∈parts,ev st2 p.2 = ev st p.2)→eu st2 k n acc parts = eu st k n acc parts
 | [],_,_=>rfl
 | (i,x)::r,acc,h=>by
   have h1:=h (i,x) List.mem_cons_self
   have ih : ∀ {acc},eu st2 k n acc r = eu st k n acc r:=fun {acc}=>qp fun p hp=>h p (List.mem_cons_of_mem _ hp)
   simp only at h1
   simp only [eu,h1,ih]
theorem C7{V : Env}{st st2 : St}{o : Oper}{id : Nat}(hs : ∀ t,t∈gk o.op→look st2.fr t = look st.fr t)(hi : ∀ i,i∈bZ st o.op.operands.toList→look st2.sto i = look st.sto i) : aQ V st2 o id = aQ V st o id:=by
 unfold aQ
 rw [BI hs hi]
 have he : ∀ {x : Operand},x∈o.op.operands.toList→ev st2 x = ev st x:=fun hx=>eh hs hx
 have hid : ∀ {x : Operand},x∈o.op.operands.toList→∀ v,ev st x = some v→∀ i,i∈bK v→look st2.sto i = look st.sto i:=fun hx v hv i h=>hi i (jf hv h hx)
 split
 ·rfl
 generalize hop : o.op = op at he hid
 split
 ·rename_i op t x y ty
  rw [he (x:=x) (by simp [Op.operands]),he (x:=y) (by simp [Op.operands]),Fb (hid (x:=x) (by simp [Op.operands])),Fc (hid (x:=x) (by simp [Op.operands]))]
 ·rename_i src dst x
  rw [he (x:=x) (by simp [Op.operands])]
 ·rename_i f caps
  have hcap : ∀ x∈caps.toList,ev st2 x = ev st x:=fun x hx=>he (by simp [Op.operands]; simpa using hx)
  have hids : ∀ {l : List Operand},(∀ x∈l,ev st2 x = ev st x)→bZ st2 l = bZ st l:=by
   intro l
   induction l with
   | nil=>intro _; rfl
   | cons x r ih =>
     intro h
     simp only [bZ,qV,h x List.mem_cons_self,ih fun y hy=>h y (List.mem_cons_of_mem _ hy)]
  have hi' : ∀ i∈bZ st caps.toList,look st2.sto i = look st.sto i:=fun i h=>hi i (by
   have hmem : ∀ {l : List Operand} {l' : List Operand},i∈bZ st l→(∀ x∈l,x∈l')→i∈bZ st l':=by
    intro l
    induction l with
    | nil=>intro l' h; simp [bZ] at h
    | cons x r ih =>
      intro l' h hs
      simp only [bZ,List.mem_append] at h
      rcases h with h | h
      ·unfold qV at h
       split at h
       ·rename_i v hv
        exact jf hv h (hs x List.mem_cons_self)
       ·simp at h
      ·exact ih h fun y hy=>hs y (List.mem_cons_of_mem _ hy)
   exact hmem h fun x hx=>by rw [hop]; simp [Op.operands]; simpa using hx)
  rw [hids hcap,kI hi']
  have ho : dx st2.sto (cV st.sto (bZ st caps.toList) []) = dx st.sto (cV st.sto (bZ st caps.toList) []):=jz fun i h=>by
   rcases lA h with h | h
   ·exact hi' i h
   ·simp at h
  rw [ho]
  simp only [mt hcap]
 ·rename_i t x
  rw [he (x:=x) (by simp [Op.operands])]
  split
  ·rename_i n s i off ht hx
   rw [hid (x:=x) (by simp [Op.operands]) _ hx i (by simp [bK,eb])]
  ·rfl
 ·rename_i x y t t2
  rw [he (x:=x) (by simp [Op.operands,Call.operands]),he (x:=y) (by simp [Op.operands,Call.operands])]
  split
  ·rename_i e1 k b z q i off n v ht ht2 hx hy
   rw [hid (x:=x) (by simp [Op.operands,Call.operands]) _ hx i (by simp [bK,eb]),ot (hid (x:=y) (by simp [Op.operands,Call.operands]) _ hy)]
  ·rfl
 ·rename_i t n parts
  have hpar : ∀ p∈parts.toList,ev st2 p.2 = ev st p.2:=fun p hp=>he (by
   simp only [Op.operands,Array.toList_map,List.mem_map]
   exact ⟨p,by simpa using hp,rfl⟩)
  have hids : ∀ {l : List (Nat×Operand)},(∀ p∈l,ev st2 p.2 = ev st p.2)→bZ st2 (l.map (·.2)) = bZ st (l.map (·.2)):=by
   intro l
   induction l with
   | nil=>intro _; rfl
   | cons x r ih =>
     intro h
     simp only [List.map_cons,bZ,qV,h x List.mem_cons_self,ih fun y hy=>h y (List.mem_cons_of_mem _ hy)]
  have hi' : ∀ i∈bZ st (parts.toList.map (·.2)),look st2.sto i = look st.sto i:=fun i h=>hi i (by
   rw [hop]
   simpa [Op.operands] using h)
  rw [hids hpar,kI hi']
  have ho : dx st2.sto (cV st.sto (bZ st (parts.toList.map (·.2))) []) = dx st.sto (cV st.sto (bZ st (parts.toList.map (·.2))) []):=jz fun i h=>by
   rcases lA h with h | h
   ·exact hi' i h
   ·simp at h
  rw [ho]
  simp only [rH hpar]
 ·rename_i t parts
  have : ∀ {k n acc},eu st2 k n acc parts.toList = eu st k n acc parts.toList:=fun {k n acc}=>qp fun p hp=>he (by
   simp only [Op.operands,Array.toList_map,List.mem_map]
   exact ⟨p,by simpa using hp,rfl⟩)
  simp only [this]
 ·rename_i t x y
  rw [he (x:=x) (by simp [Op.operands]),he (x:=y) (by simp [Op.operands])]
 ·rfl
 ·rename_i t x y ok
  rw [he (x:=x) (by simp [Op.operands]),he (x:=y) (by simp [Op.operands])]
  split
  ·rename_i m i ky hm hx hy
   rw [hid (x:=x) (by simp [Op.operands]) _ hx i (by simp [bK,eb])]
  ·rfl
 ·rename_i t x y z
  rw [he (x:=x) (by simp [Op.operands]),he (x:=y) (by simp [Op.operands]),he (x:=z) (by simp [Op.operands])]
  split
  ·rename_i m i ky vl hm hx hy hz
   rw [hid (x:=x) (by simp [Op.operands]) _ hx i (by simp [bK,eb])]
  ·rfl
 ·rfl
def rR(st : St)(op : Op) : List Nat:=match op with
 | .move _ | .assign _=>[]
 | op=>bZ st op.operands.toList
theorem Ae{V : Env}{st st2 : St}{o : Oper}{id : Nat}(hs : ∀ t,t∈gk o.op→look st2.fr t = look st.fr t)(hi : ∀ i,i∈rR st o.op→look st2.sto i = look st.sto i) : aQ V st2 o id = aQ V st o id:=by
 have he : ∀ {x : Operand},x∈o.op.operands.toList→ev st2 x = ev st x:=fun hx=>eh hs hx
 generalize hop : o.op = op at he
 cases op with
 | move x =>
   have h1:=he (x:=x) (by simp [Op.operands])
   simp only [aQ,cF,hop,bQ,h1,cj,lh]
 | assign x =>
   have h1:=he (x:=x) (by simp [Op.operands])
   simp only [aQ,cF,hop,bQ,h1,cj,lh]
 | _=>exact C7 hs (by rw [hop] at hi ⊢; exact hi)
theorem mu{V : Env}(hV : EnvOk P V){o : Oper}{st : St}{id : Nat}{e : Ef}(hd : aP c.n o.dst = true)(h : aQ V st o id = some e)(hid : Nat.blt (id + 1) 1000000 = true) : Loc P c o st (e.tr (rR st o.op)):=by
 intro st2 hs hri hnew ops rest K hk
 exact oO hV hd ((Ae hs hri).trans h) hid hnew ops rest K hk
end Go.Abs
