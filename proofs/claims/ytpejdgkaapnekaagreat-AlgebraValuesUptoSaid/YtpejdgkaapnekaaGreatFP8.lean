import Derived.Laws.IdiomStrings
import Derived.WalkSpells
import Derived.Test.YtpejdgkaapnekaaGreatFP7
import Derived.Test.YtpejdgkaapnekaaGreatFP6
set_option linter.unusedVariables false
set_option linter.unusedSimpArgs false
set_option maxHeartbeats 1000000
namespace Go.Abs
open Go
variable {P : Program} {c : Ctx} {T : Tab} {σ : Sig} {φ : Pl} {w : World}
def tF(op : BinOp) : Option AV→Option AV→Option D
 | some (.one (.d (.int k x))),some (.one (.d (.int k' y)))=>match op with
   | .quo=>bif kEq k k' && !decide (y = 0) then some (.int k (k.wrap (x.tdiv y))) else none
   | .rem=>bif kEq k k' && !decide (y = 0) then some (.int k (x.tmod y)) else none
   | .shl=>bif !decide (y < 0) then some (.int k (k.wrap (x * 2 ^ (min y.toNat k.bits)))) else none
   | .shr=>bif !decide (y < 0) then some (.int k (x.fdiv (2 ^ (min y.toNat k.bits)))) else none
   | _=>none
 | _,_=>none
theorem gW{x y : Int}(hx : 0≤x)(hy : 0 < y) : x % y≤x:=by
 have h1:=Int.mul_ediv_add_emod x y
 have h2:=Int.mul_nonneg (show 0≤y by omega) (Int.ediv_nonneg hx (show 0≤y by omega))
 omega
theorem D1{k : IntKind}{x y : Int}(h : inR k x) : inR k (x.tmod y):=by
 unfold inR at *
 have hmin : k.min≤0:=by unfold IntKind.min; cases k <;> simp [IntKind.signed,IntKind.bits]
 have hmax : 0≤k.max:=by unfold IntKind.max; cases k <;> simp [IntKind.signed,IntKind.bits]
 rcases Int.le_total 0 x with h0 | h0
 ·have h1:=Int.tmod_nonneg y h0
  have h2 : x.tmod y≤x:=by
   rw [Int.tmod_eq_emod_of_nonneg h0]
   rcases Int.lt_trichotomy y 0 with hy | hy | hy
   ·have:=Int.emod_nonneg x (show y≠0 by omega)
    rw [← Int.emod_neg]
    exact gW h0 (by omega)
   ·subst hy; simp
   ·exact gW h0 hy
  omega
 ·obtain ⟨z,rfl⟩ : ∃ z,x = -z:=⟨-x,by omega⟩
  rw [Int.neg_tmod]
  have h1:=Int.tmod_nonneg y (show 0≤z by omega)
  have h2 : z.tmod y≤z:=by
   rw [Int.tmod_eq_emod_of_nonneg (by omega)]
   rcases Int.lt_trichotomy y 0 with hy | hy | hy
   ·rw [← Int.emod_neg]
    exact gW (by omega) (by omega)
   ·subst hy; simp
   ·exact gW (by omega) hy
  omega
theorem D2{k : IntKind}{x : Int}{n : Nat}(h : inR k x) : inR k (x.fdiv (2 ^ n)):=by
 unfold inR at *
 have hmin : k.min≤0:=by unfold IntKind.min; cases k <;> simp [IntKind.signed,IntKind.bits]
 have hmax : 0≤k.max:=by unfold IntKind.max; cases k <;> simp [IntKind.signed,IntKind.bits]
 have hp : (0 : Int) < 2 ^ n:=Int.pow_pos (by omega)
 rw [Int.fdiv_eq_ediv_of_nonneg _ (by omega)]
 rcases Int.le_total 0 x with h0 | h0
 ·have h1:=Int.ediv_nonneg h0 (show (0 : Int)≤2 ^ n by omega)
  have h2:=Int.ediv_le_self (2 ^ n) h0
  omega
 ·have h1 : x≤x / 2 ^ n:=by
   rw [Int.le_ediv_iff_mul_le hp]
   have : x * 2 ^ n≤x * 1:=Int.mul_le_mul_of_nonpos_left h0 (by omega)
   omega
  have h2 : x / 2 ^ n≤0:=by
   have : x / 2 ^ n < 1:=by rw [Int.ediv_lt_iff_lt_mul hp]; omega
   omega
  omega
theorem Cn{ops : Array Oper}{o : Oper}{rest : List Oper}{st : St}{K : St→Prop}{op : BinOp}{t ty : TypeId}{x y : Operand}{d : D}
  (ho : o.op = .binOp op t x y ty) (hg : o.guard = none) (hd : bu c.n o.dst = true) (hv : tF op (ev st x) (ev st y) = some d)
  (h : ao P c ops rest ⟨bX o.dst (.one (.d d)) st.fr,st.sto⟩ K) : ao P c ops (o::rest) st K :=
 bM hg fun a w σ φ hr=>by
  unfold tF at hv
  split at hv <;> (try (simp at hv; done))
  rename_i k x' k' y' hx hy
  have h1:=RepC.d_inv (bh hr hx)
  have h2:=RepC.d_inv (bh hr hy)
  generalize hux : a.eval x = ux at h1
  generalize huy : a.eval y = uy at h2
  cases h1 with | int h1=>cases h2 with | int h2 =>
  split at hv
  ·cases hb : kEq k k' && !decide (y' = 0) <;> simp only [hb,cond_true,cond_false,reduceCtorEq,Option.some.injEq] at hv
   simp only [Bool.and_eq_true,Bool.not_eq_true',decide_eq_false_iff_not] at hb
   obtain rfl:=fB hb.1
   subst hv
   refine ⟨_,w,_,σ,φ,?_,hr.put (v:=.one (.d (.int k (k.wrap (x'.tdiv y'))))) hd (RepC.d (.int (jz _ _))),h⟩
   simp [execOp,ho,hux,huy,cF,binOp,Op.intDiv,hb.2]
  ·cases hb : kEq k k' && !decide (y' = 0) <;> simp only [hb,cond_true,cond_false,reduceCtorEq,Option.some.injEq] at hv
   simp only [Bool.and_eq_true,Bool.not_eq_true',decide_eq_false_iff_not] at hb
   obtain rfl:=fB hb.1
   subst hv
   refine ⟨_,w,_,σ,φ,?_,hr.put (v:=.one (.d (.int k (x'.tmod y')))) hd (RepC.d (.int (D1 h1))),h⟩
   simp [execOp,ho,hux,huy,cF,binOp,Op.intDiv,hb.2]
  ·cases hb : !decide (y' < 0) <;> simp only [hb,cond_true,cond_false,reduceCtorEq,Option.some.injEq] at hv
   simp only [Bool.not_eq_true',decide_eq_false_iff_not] at hb
   subst hv
   refine ⟨_,w,_,σ,φ,?_,hr.put (v:=.one (.d (.int k (k.wrap (x' * 2 ^ (min y'.toNat k.bits)))))) hd (RepC.d (.int (jz _ _))),h⟩
   simp [execOp,ho,hux,huy,cF,binOp,Op.shift,hb]
  ·cases hb : !decide (y' < 0) <;> simp only [hb,cond_true,cond_false,reduceCtorEq,Option.some.injEq] at hv
   simp only [Bool.not_eq_true',decide_eq_false_iff_not] at hb
   subst hv
   refine ⟨_,w,_,σ,φ,?_,hr.put (v:=.one (.d (.int k (x'.fdiv (2 ^ (min y'.toNat k.bits)))))) hd (RepC.d (.int (D2 h1))),h⟩
   simp [execOp,ho,hux,huy,cF,binOp,Op.shift,hb]
  ·simp at hv
def mV(s : List UInt8) : D:=.sl 1 1 (s.map fun b=>[.int .u8 (b.toNat : Int)])
theorem Rel.sealNew{st : St}{a : Act}(hr : Rel c st a w σ φ)(arr : Array Value)(t : TypeId)(f : Nat×Nat) :
  Rel c st a (w.alloc (.cells arr t f)) (fM σ w.heap.size arr) φ∧σ.le (fM σ w.heap.size arr):=by
 have hle : σ.le (fM σ w.heap.size arr):=pD (.inl (g5 hr.inv))
 have hheap : ∀ B,B < w.heap.size→(w.alloc (.cells arr t f)).heap[B]? = w.heap[B]?:=fun B hB=>RowKit.Below.heap_alloc w _ B hB
 refine ⟨⟨Sig.le_trans hr.le hle,fun b hb=>?_,⟨fun b cs hb=>?_,fun i e hi=>?_,hr.inv.inj⟩,hr.mine,fun s v hv=>?_,hr.defers,hr.size,hr.fra.alloc _,hr.pin⟩,hle⟩
 ·by_cases e : b = w.heap.size
  ·subst e; exact .inr (.inl hr.fra.size)
  ·simp [fM,e] at hb; exact hr.fresh b hb
 ·by_cases e : b = w.heap.size
  ·subst e
   simp only [fM,if_true,Option.some.injEq] at hb
   subst hb
   exact ⟨t,f,cG w _⟩
  ·simp only [fM,e,if_false] at hb
   obtain ⟨t',f',hh⟩:=hr.inv.sig b cs hb
   exact ⟨t',f',(hheap b (Array.getElem?_eq_some_iff.1 hh).1).trans hh⟩
 ·have ho:=hr.inv.obj i e hi
  refine ho.ext (X:=fun _=>False) hle (Ext.refl _ _) (fun j hj=>hj.elim) rfl fun B cc hB=>⟨hheap B (ho.lt hB),?_⟩
  have : B≠w.heap.size:=by have:=ho.lt hB; simp only at this; omega
  simp [fM,this]
 ·obtain ⟨u,hu,hru⟩:=hr.slot s v hv
  exact ⟨u,hu,hru.ext hle (Ext.refl _ _) fun j hj=>hj.elim⟩
def lv(T : Tab)(t : TypeId) : Bool:=match look T t with | some ⟨.slice e,_,_,_⟩=>(match look T e with | some ⟨.int k,_,_,_⟩=>kEq k .u8 | _=>false) | _=>false
theorem qs(hT : bE P T){ops : Array Oper}{o : Oper}{rest : List Oper}{st : St}{K : St→Prop}{src dst : TypeId}{x : Operand}{s : List UInt8}
  (ho : o.op = .convert src dst x) (hg : o.guard = none) (hd : bu c.n o.dst = true) (ht : (fR T src && lv T dst) = true) (hx : ev st x = some (.one (.d (.str s)))) (hl : s.length≤2 ^ 47)
  (h : ao P c ops rest ⟨bX o.dst (.one (.d (mV s))) st.fr,st.sto⟩ K) : ao P c ops (o::rest) st K :=
 bM hg fun a w σ φ hr=>by
  rw [Bool.and_eq_true] at ht
  have hsrc:=pp hT ht.1
  have ht2:=ht.2
  unfold lv at ht2
  split at ht2 <;> (try (simp at ht2; done))
  rename_i e sz b z hlk
  split at ht2 <;> (try (simp at ht2; done))
  rename_i k sz2 b2 z2 hlk2
  obtain rfl:=fB ht2
  obtain ⟨_,u,_,_,hu,_,_,_,hk,_⟩:=(hT dst _ hlk).ex
  obtain ⟨_,u2,_,_,hu2,_,_,_,hk2,_⟩:=(hT e _ hlk2).ex
  simp only [ek] at hk hk2
  subst hk hk2
  obtain ⟨hxe,h48⟩:=xp hr hx
  have hrun:=run_bytes_of_string (P:=P) w src dst e ⟨s.toArray⟩ hsrc hu hu2
  have hsize : (⟨s.toArray⟩ : ByteArray).size = s.length:=by simp [ByteArray.size]
  rw [hsize] at hrun
  have hcap:=grownCap_ge w s.length 0 e
  obtain ⟨h1,hle⟩:=(hr.drew (w.drawn + 1) (Nat.le_succ _)).sealNew (bytesRow ⟨s.toArray⟩ (grownCap w s.length 0 e)) e ((bytesRow ⟨s.toArray⟩ (grownCap w s.length 0 e)).size,(bytesRow ⟨s.toArray⟩ (grownCap w s.length 0 e)).size + 1)
  let arr:=bytesRow ⟨s.toArray⟩ (grownCap w s.length 0 e)
  have hrep : Rep (fM σ w.heap.size arr) (mV s) (.slice (some ⟨w.heap.size,0,none⟩) s.length (grownCap w s.length 0 e)):=by
   have hln : (s.map fun b=>[D.int .u8 (b.toNat : Int)]).length = s.length:=by simp
   have:=Rep.sl (σ:=fM σ w.heap.size arr) (k:=1) (b:=1) (xs:=s.map fun b=>[D.int .u8 (b.toNat : Int)]) (A:=some ⟨w.heap.size,0,none⟩) (cap:=grownCap w s.length 0 e)
    (fun i j=>.int .u8 ((s.getD i 0).toNat : Int)) (by rw [hln]; exact hcap) (by rw [hln]; exact h48) (by rw [hln]; omega) (by intro x hx; simp only [List.mem_map] at hx; obtain ⟨b,_,rfl⟩:=hx; rfl)
    (fun h0=>⟨w.heap.size,0,arr,rfl,by simp [fM],fun i j hi hj=>by
     rw [hln] at hi
     obtain rfl : j = 0:=by omega
     have : arr = (s.map fun b=>Value.int .u8 (b.toNat : Int)).toArray ++ Array.replicate (grownCap w s.length 0 e - s.length) (.int .u8 0):=by
      show bytesRow _ _ = _
      unfold bytesRow
      rw [hsize]
      simp
     rw [this]
     simp only [Nat.zero_add,Nat.mul_one,Nat.add_zero]
     rw [Array.getElem?_append_left (by simpa using hi)]
     simp [List.getD,hi]⟩)
    (fun i j x d hx hd=>by
     simp only [List.getElem?_map,Option.map_eq_some_iff] at hx
     obtain ⟨b,hb,rfl⟩:=hx
     match j,hd with
     | 0,hd =>
       simp at hd; subst hd
       have : s.getD i 0 = b:=by simp [List.getD,hb]
       rw [this]
       refine .int ⟨?_,?_⟩
       ·simp [IntKind.min,IntKind.signed,IntKind.bits]
       ·have:=b.toNat_lt
        simp [IntKind.max,IntKind.signed,IntKind.bits]; omega
     | _ + 1,hd=>simp at hd)
   rw [hln] at this
   exact this
  exact ⟨_,_,⟨bX o.dst (.one (.d (mV s))) st.fr,st.sto⟩,_,φ,by simp [execOp,ho,hxe,hrun],h1.put (v:=.one (.d (mV s))) hd (RepC.d hrep),h⟩
theorem sv{ops : Array Oper}{o : Oper}{rest : List Oper}{st ss : St}{K : St→Prop}{f : FuncId}{caps : Array Operand}{avs : List AV}{ds : List D}(dl : List Nat)
  (ho : o.op = .makeFunc (.func f) #[] caps) (hg : o.guard = none) (hd : bu c.n o.dst = true) (hss : sealL st dl = some ss) (ha : evL ss caps.toList = some avs) (hds : jw avs = some ds)
  (h : ao P c ops rest ⟨bX o.dst (.one (.d (.fn f ds))) st.fr,d8 dl st.sto⟩ K) : ao P c ops (o::rest) st K :=
 bM hg fun a w σ φ hr=>by
  obtain ⟨σs,hs,hr1⟩:=hr.given hss
  have h1:=l0 hds (gm hs ha)
  refine ⟨.func (.func f) #[] (caps.toList.map a.eval).toArray,w,⟨bX o.dst (.one (.d (.fn f ds))) st.fr,d8 dl st.sto⟩,σs,φ,?_,hr1.put (v:=.one (.d (.fn f ds))) hd (RepC.d (.fn _ h1.length.symm fun j d v hd hv=>?_)),h⟩
  ·have e : (caps.toList.map a.eval).toArray = caps.map a.eval:=by rw [← Array.toList_map,Array.toArray_toList]
   rw [e]
   simp [execOp,ho,Instr.makeFunc]
  ·obtain ⟨u,hu,hru⟩:=h1.get hd
   rw [hv] at hu; cases hu; exact hru
def cC(i : Nat) : List Nat→Bool
 | []=>false
 | j::r=>Nat.beq j i || cC i r
theorem memL_iff{i : Nat} : ∀ {l : List Nat},cC i l = true↔i∈l
 | []=>by simp [cC]
 | j::r=>by
   simp only [cC,Bool.or_eq_true,memL_iff (l:=r),List.mem_cons]
   exact or_congr_left ⟨fun h=>(Nat.eq_of_beq_eq_true h).symm,fun h=>by rw [h]; exact Nat.beq_refl _⟩
def dp(s : Sto) : List Nat→List Nat→List Nat
 | [],acc=>acc
 | i::r,acc=>bif cC i acc || !bQ s i then dp s r acc else dp s r (acc ++ [i])
theorem kb{s s2 : Sto} : ∀ {l acc : List Nat},(∀ i∈l,look s2 i = look s i)→dp s2 l acc = dp s l acc
 | [],_,_=>rfl
 | i::r,acc,h=>by
   have h1 : bQ s2 i = bQ s i:=by simp [bQ,h i List.mem_cons_self]
   simp only [dp,h1]
   rw [kb fun j hj=>h j (List.mem_cons_of_mem _ hj),kb fun j hj=>h j (List.mem_cons_of_mem _ hj)]
theorem kM{s : Sto}{i : Nat} : ∀ {l acc : List Nat},i∈dp s l acc→i∈l∨i∈acc
 | [],_,h=>.inr h
 | j::r,acc,h=>by
   simp only [dp] at h
   cases hb : cC j acc || !bQ s j with
   | true =>
     simp only [hb,cond_true] at h
     rcases kM h with h | h
     ·exact .inl (by simp [h])
     ·exact .inr h
   | false =>
     simp only [hb,cond_false] at h
     rcases kM h with h | h
     ·exact .inl (by simp [h])
     ·simp at h
      rcases h with h | h
      ·exact .inr h
      ·exact .inl (by simp [h])
def rq(sto : Sto) : Option AV→Option Bool
 | some (.one (.d .nil))=>some true
 | some (.one (.d (.sl _ _ (_::_))))=>some false
 | some (.one (.own id _))=>match look sto id with | some (.row _ _ (_::_))=>some false | _=>none
 | _=>none
def sw : Option AV→Bool
 | some (.one (.d .nil))=>true
 | _=>false
def lx(T : Tab)(t : TypeId) : Bool:=match look T t with | some ⟨.slice _,_,_,_⟩=>true | _=>false
theorem yo(hT : bE P T){t : TypeId}(h : lx T t = true) : ∃ e,P.underlying t = some (.slice e):=by
 unfold lx at h
 split at h
 ·rename_i e sz b z hl
  obtain ⟨_,u,_,_,hu,_,_,_,hk,_⟩:=(hT t _ hl).ex
  simp only [ek] at hk
  exact ⟨e,by rw [hu,hk]⟩
 ·cases h
theorem D3{st : St}{a : Act}(hr : Rel c st a w σ φ){x : Operand}{b : Bool}(h : rq st.sto (ev st x) = some b) : ∃ A n cap,a.eval x = .slice A n cap∧A.isNone = b:=by
 unfold rq at h
 split at h
 ·rename_i hx
  simp only [Option.some.injEq] at h; subst h
  have h1:=RepC.d_inv (bh hr hx)
  generalize a.eval x = u at h1
  cases h1
  exact ⟨none,0,0,rfl,rfl⟩
 ·rename_i k bb y ys hx
  simp only [Option.some.injEq] at h; subst h
  have h1:=RepC.d_inv (bh hr hx)
  generalize a.eval x = u at h1
  cases h1 with
  | sl vs hc h48 hb hk hA hh =>
    obtain ⟨B,o,cells,rfl,_⟩:=hA (by simp)
    exact ⟨_,_,_,rfl,rfl⟩
 ·rename_i id n hx
  split at h <;> simp at h
  rename_i k bb y ys hl
  subst h
  have h1 : RepC σ φ st.sto (.own id n) (a.eval x):=bh hr hx
  generalize a.eval x = u at h1
  cases h1 with
  | dead hxx _=>simp [ci,cv hl] at hxx
  | own hl' hn hp=>exact ⟨_,_,_,rfl,rfl⟩
  | ownNil hl' hp =>
    rw [hl] at hl'; cases hl'
    rcases hr.inv.obj _ _ hl with ⟨h2,_⟩ | ⟨B,cap,arr,t,vs,h2,_⟩
    ·cases h2
    ·rw [hp] at h2; cases h2
 ·simp at h
theorem yp(hT : bE P T){ops : Array Oper}{o : Oper}{rest : List Oper}{st : St}{K : St→Prop}{op : BinOp}{t ty : TypeId}{x y : Operand}{b e : Bool}
  (ho : o.op = .binOp op t x y ty) (hop : ji op = some e) (hg : o.guard = none) (hd : bu c.n o.dst = true) (ht : (lx T t && sw (ev st y)) = true) (hv : rq st.sto (ev st x) = some b)
  (h : ao P c ops rest ⟨bX o.dst (.one (.d (.bool (b == e)))) st.fr,st.sto⟩ K) : ao P c ops (o::rest) st K :=
 bM hg fun a w σ φ hr=>by
  rw [Bool.and_eq_true] at ht
  obtain ⟨el,hu⟩:=yo hT ht.1
  obtain ⟨A,n,cap,hx,hA⟩:=D3 hr hv
  have hy : a.eval y = .slice none 0 0:=by
   have h2:=ht.2
   unfold sw at h2
   split at h2
   ·rename_i hy
    have h1:=RepC.d_inv (bh hr hy)
    generalize a.eval y = u at h1
    cases h1; rfl
   ·cases h2
  refine ⟨.bool (b == e),w,_,σ,φ,?_,hr.put (v:=.one (.d (.bool (b == e)))) hd (RepC.d .bool),h⟩
  cases op <;> simp only [ji,Option.some.injEq,reduceCtorEq] at hop <;> subst hop
  ·simp [execOp,ho,hx,hy,cF,Lib.run_eql_slice_nil _ _ _ _ _ _ _ _ hu,hA]
  ·simp [execOp,ho,hx,hy,cF,run_neq_slice_nil_any _ _ _ _ _ _ _ _ hu,hA]
def rr(sto : Sto) : Option AV→Option Bool
 | some (.one (.d (.raw (.pointer none))))=>some true
 | some (.one (.d (.ptr _)))=>some false
 | some (.one (.ref id _))=>bif bQ sto id then some false else none
 | some (.one (.rref id _ _))=>bif bQ sto id then some false else none
 | _=>none
def pS : Option AV→Bool
 | some (.one (.d (.raw (.pointer none))))=>true
 | _=>false
def sx(T : Tab)(t : TypeId) : Bool:=match look T t with | some ⟨.ptr,_,_,_⟩=>true | _=>false
theorem D4{st : St}{a : Act}(hr : Rel c st a w σ φ){x : Operand}{b : Bool}(h : rr st.sto (ev st x) = some b) : ∃ p,a.eval x = .pointer p∧p.isNone = b:=by
 unfold rr at h
 split at h
 ·rename_i hx
  simp only [Option.some.injEq] at h; subst h
  have h1:=RepC.d_inv (bh hr hx)
  generalize a.eval x = u at h1
  cases h1
  exact ⟨none,rfl,rfl⟩
 ·rename_i cs hx
  simp only [Option.some.injEq] at h; subst h
  have h1:=RepC.d_inv (bh hr hx)
  generalize a.eval x = u at h1
  cases h1
  exact ⟨_,rfl,rfl⟩
 ·rename_i id off hx
  cases hk : bQ st.sto id <;> simp only [hk,cond_true,cond_false,reduceCtorEq,Option.some.injEq] at h
  subst h
  have h1 : RepC σ φ st.sto (.ref id off) (a.eval x):=bh hr hx
  generalize a.eval x = u at h1
  cases h1 with
  | dead hxx _=>simp only [ci] at hxx; rw [hk] at hxx; cases hxx
  | ref hl hp=>exact ⟨_,rfl,rfl⟩
 ·rename_i id i off hx
  cases hk : bQ st.sto id <;> simp only [hk,cond_true,cond_false,reduceCtorEq,Option.some.injEq] at h
  subst h
  have h1 : RepC σ φ st.sto (.rref id i off) (a.eval x):=bh hr hx
  generalize a.eval x = u at h1
  cases h1 with
  | dead hxx _=>simp only [ci] at hxx; rw [hk] at hxx; cases hxx
  | rref hl hp=>exact ⟨_,rfl,rfl⟩
 ·simp at h
theorem xq(hT : bE P T){ops : Array Oper}{o : Oper}{rest : List Oper}{st : St}{K : St→Prop}{op : BinOp}{t ty : TypeId}{x y : Operand}{b e : Bool}
  (ho : o.op = .binOp op t x y ty) (hop : ji op = some e) (hg : o.guard = none) (hd : bu c.n o.dst = true) (ht : (sx T t && pS (ev st y)) = true) (hv : rr st.sto (ev st x) = some b)
  (h : ao P c ops rest ⟨bX o.dst (.one (.d (.bool (b == e)))) st.fr,st.sto⟩ K) : ao P c ops (o::rest) st K :=
 bM hg fun a w σ φ hr=>by
  rw [Bool.and_eq_true] at ht
  have hu : ∃ el,P.underlying t = some (.pointer el):=by
   have h1:=ht.1
   unfold sx at h1
   split at h1
   ·rename_i sz b z hl
    obtain ⟨_,u,_,_,hu,_,_,_,hk,_⟩:=(hT t _ hl).ex
    simp only [ek] at hk
    obtain ⟨e,rfl⟩:=hk
    exact ⟨e,hu⟩
   ·cases h1
  obtain ⟨el,hu⟩:=hu
  obtain ⟨p,hx,hA⟩:=D4 hr hv
  have hy : a.eval y = .pointer none:=by
   have h2:=ht.2
   unfold pS at h2
   split at h2
   ·rename_i hy
    have h1:=RepC.d_inv (bh hr hy)
    generalize a.eval y = u at h1
    cases h1; rfl
   ·cases h2
  have heq : (Op.equal t (.pointer p) (.pointer none)).run P w = .ok p.isNone w:=by
   have h1 : ∀ d,(Op.equalIn (d + 1) t (.pointer p) (.pointer none)).run P w = .ok p.isNone w:=fun d=>by
    cases p <;> simp [Op.equalIn,run_underlying hu]
   exact h1 9999
  refine ⟨.bool (b == e),w,_,σ,φ,?_,hr.put (v:=.one (.d (.bool (b == e)))) hd (RepC.d .bool),h⟩
  cases op <;> simp only [ji,Option.some.injEq,reduceCtorEq] at hop <;> subst hop
  ·simp [execOp,ho,hx,hy,cF,binOp,heq,hA]
  ·simp [execOp,ho,hx,hy,cF,binOp,heq,hA]
theorem AJ{ops : Array Oper}{o : Oper}{rest : List Oper}{st ss : St}{K : St→Prop}{d id : Nat}{obj : AObj}{v : AV}(dl : List Nat)(hg : o.guard = none)(hdst : o.dst = some d)(hd : (Nat.blt d c.n && Nat.blt id 1000000) = true)
  (hss : sealL st dl = some ss) (hm1 : bY id st.fr = false) (hm2 : br id (d8 dl st.sto) = false)
  (H : ∀ (a : Act) (w : World) (σ : Sig) (φ : Pl),Rel c ss a w σ φ→∃ (u : Value) (arr : Array Value) (t : TypeId) (cap : Nat),(execOp a.eval o).run P w = .ok (.value u) (w.alloc (.cells arr t)) ∧
   ∀ sto',ObjRep σ (cw φ id (some (w.heap.size,cap))) ((id,obj)::sto') (w.alloc (.cells arr t)) id obj∧RepV σ (cw φ id (some (w.heap.size,cap))) ((id,obj)::sto') v u)
  (h : ao P c ops rest ⟨(d,v)::st.fr,(id,obj)::d8 dl st.sto⟩ K) : ao P c ops (o::rest) st K :=
 bM hg fun a w σ φ hr0=>by
  obtain ⟨σs,hs,hr⟩:=hr0.given hss
  obtain ⟨u,arr,t,cap,hrun,hboth⟩:=H a w σs φ hs
  obtain ⟨hobj,hv⟩:=hboth (d8 dl st.sto)
  refine ⟨u,_,_,σs,cw φ id (some (w.heap.size,cap)),hrun,?_,h⟩
  rw [hdst]
  simp only [Bool.and_eq_true] at hd
  have hd' : bu c.n (some d) = true:=hd.1
  refine hr.putTo (dst:=some d) (st':=⟨st.fr,(id,obj)::d8 dl st.sto⟩) hd' hr.le hr.fresh (hr.inv.add hm2 hobj) ?_ (hr.fra.alloc _) (fun i hi=>by
   have : i≠id:=by have:=Nat.le_of_ble_eq_true hd.2; omega
   rw [bK this]; exact hr.pin i hi) (fun _=>hv) ?_
  ·intro i e p hi hp
   rcases aB hi with ⟨rfl,rfl⟩ | ⟨hne,hi⟩
   ·rw [bo] at hp; cases hp; exact .inl hr.fra.size
   ·rw [bK hne] at hp; exact hr.mine _ _ _ hi hp
  ·intro s x _ hx
   exact ⟨x,hx,fun z hz=>hz.ext (Sig.le_refl _) Ext.add fun j hj=>by cases hj; exact dT hm1 hx⟩
theorem p4(hT : bE P T){ops : Array Oper}{o : Oper}{rest : List Oper}{st ss : St}{K : St→Prop}{d id n k b : Nat}{t e : TypeId}{z : List D}{parts : Array (Nat×Operand)}{xs : List (List D)}(dl : List Nat)
  (ho : o.op = .buildSlice t n parts) (hg : o.guard = none) (hdst : o.dst = some d) (hd : (Nat.blt d c.n && Nat.blt id 1000000) = true) (hss : sealL st dl = some ss) (ht : bz T t = some (e,k,b,z))
  (hp : dW ss k 0 parts.toList = some xs) (hn : Nat.beq parts.toList.length n = true) (hbig : (Nat.ble (n * k) 1000000 && Nat.ble (n * b) 1000000 && Nat.ble n 1000000) = true)
  (hm1 : bY id st.fr = false) (hm2 : br id (d8 dl st.sto) = false)
  (h : ao P c ops rest ⟨(d,.one (.own id n))::st.fr,(id,.row k b xs)::d8 dl st.sto⟩ K) : ao P c ops (o::rest) st K:=by
 refine AJ dl hg hdst hd hss hm1 hm2 (fun a w σ φ hr=>?_) h
 obtain ⟨i,zv,hu,hi,rfl,rfl,hz,hzc,hzb,hzl⟩:=dE hT ht
 have hnl:=Nat.eq_of_beq_eq_true hn
 simp only [Bool.and_eq_true,Nat.ble_eq] at hbig
 obtain ⟨⟨hb1,hb2⟩,hb3⟩:=hbig
 obtain ⟨hl,hlk⟩:=nU hp
 have hxn : xs.length = n:=by omega
 have hz0:=mn (σ:=σ) (φ:=φ) (sto:=ss.sto) hzc hzb hzl n
 obtain ⟨cells',h1,h2⟩:=nV hr (k:=i.size) parts.toList 0 xs [] ((List.replicate n z).flatten.map .d) ((Array.range (n * i.size)).map (fun j=>zv.cells[j % zv.cells.size]!)) hp rfl (by simp)
  (by rw [List.length_map,cz (k:=i.size) (by intro x hx; rw [List.eq_of_mem_replicate hx]; exact hzl)]; simp [hnl]) (by simpa using hz0)
 have hdrop : ((List.replicate n z).flatten.map AC.d).drop (parts.toList.length * i.size) = []:=by
  apply List.drop_of_length_le
  rw [List.length_map,cz (k:=i.size) (by intro x hx; rw [List.eq_of_mem_replicate hx]; exact hzl)]
  simp only [List.length_replicate,hnl]; exact Nat.le_refl _
 rw [hdrop,List.append_nil,List.nil_append] at h2
 have h2':=lE h2
 have hsz : cells'.size = n * i.size:=by
  have:=h2'.length
  rw [cz hlk,hxn] at this
  simpa using this.symm
 refine ⟨.slice (some ⟨w.heap.size,0,none⟩) n n,cells',e,n,?_,fun sto'=>⟨ObjRep.mk_row (B:=w.heap.size) (cap:=n) bo (cG w _) hsz (by omega) (by omega) ?_ hlk h2' (fun j u hu=>by simpa using hu) (g5 hr.inv),?_⟩⟩
 ·have hbig' : ¬ (n * i.size > 2 ^ 24):=by omega
  have hpm : (parts.map fun (x : Nat×Operand)=>(x.1,a.eval x.2)).toList = parts.toList.map fun p=>(p.1,a.eval p.2):=by simp
  simp only [execOp,ho,Instr.buildSlice,Sem.run_bind,run_underlying hu,Result.andThen_ok,cn hi,if_neg hbig']
  by_cases h0 : n * i.size = 0
  ·have e0 : ∀ f : Nat→Value,(Array.range (n * i.size)).map f = #[]:=by rw [h0]; intro f; simp
   rw [e0] at h1
   simp only [if_pos h0,Sem.run_bind,Sem.run_pure,Result.andThen_ok,e0,hpm,h1]
   simp [newRow]
  ·simp only [if_neg h0,Sem.run_bind,ez hi hz,Sem.run_pure,Result.andThen_ok,hpm,h1]
   simp [newRow]
 ·rw [hxn]; omega
 ·have:=RepC.own (σ:=σ) (φ:=cw φ id (some (w.heap.size,n))) (sto:=(id,.row i.size i.bytes xs)::sto') (id:=id) (n:=n) (B:=w.heap.size) (cap:=n) bq (by omega) bo
  exact this
def ly(os : List (Nat×AObj))(st : St)(k : Nat) : Nat→List (Nat×Operand)→Option (List (List D))
 | _,[]=>some []
 | i,(j,x)::r=>bif Nat.beq i j then (match evS os st x with
   | some v=>(match cellsOf v with
     | some cs=>(match eY cs with
       | some ds=>bif Nat.beq ds.length k then (match ly os st k (i + 1) r with | some l=>some (ds::l) | none=>none) else none
       | none=>none)
     | none=>none)
   | none=>none) else none
theorem uL{os : List (Nat×AObj)}{st ss : St}{k : Nat}(h : ∀ x,ev ss x = evS os st x) : ∀ {parts : List (Nat×Operand)} {i : Nat},dW ss k i parts = ly os st k i parts
 | [],_=>rfl
 | (j,x)::r,i=>by simp only [dW,ly,h x,uL h (parts:=r)]; rfl
theorem qu{os : List (Nat×AObj)}{st st2 : St}{k : Nat} : ∀ {parts : List (Nat×Operand)} {i : Nat},(∀ p∈parts,ev st2 p.2 = ev st p.2)→ly os st2 k i parts = ly os st k i parts
 | [],_,_=>rfl
 | (j,x)::r,i,h=>by
   have h1:=h (j,x) List.mem_cons_self
   simp only at h1
   simp only [ly,evS,h1,qu (parts:=r) fun p hp=>h p (List.mem_cons_of_mem _ hp)]
theorem tJ(hT : bE P T){ops : Array Oper}{o : Oper}{rest : List Oper}{st : St}{K : St→Prop}{t : TypeId}{x : Operand}{id off n s : Nat}{cells : List AC}
  (ho : o.op = .slice t x none none none) (hg : o.guard = none) (hd : bu c.n o.dst = true) (ht : nA T t = some (n,s)) (hx : ev st x = some (.one (.ref id off))) (hl : look st.sto id = some (.box cells))
  (h : ao P c ops rest ⟨bX o.dst (.one (.bsl id off n)) st.fr,st.sto⟩ K) : ao P c ops (o::rest) st K :=
 bM hg fun a w σ φ hr=>by
  obtain ⟨e,i,hu,hi,_⟩:=xr hT ht
  have h1 : RepC σ φ st.sto (.ref id off) (a.eval x):=bh hr hx
  generalize hux : a.eval x = ux at h1
  cases h1 with
  | dead hxx _=>simp [ci,cv hl] at hxx
  | ref hl' hp =>
    rename_i B cap cs
    refine ⟨.slice (some ⟨B,off,none⟩) n n,w,_,σ,φ,?_,hr.put (v:=.one (.bsl id off n)) hd (RepC.bsl hl hp),h⟩
    simp [execOp,ho,hux,Instr.sliceAt,Instr.sureAddr,run_underlying hu,Instr.sliceBounds,cn hi,fq]
theorem yq(hT : bE P T){ops : Array Oper}{o : Oper}{rest : List Oper}{st : St}{K : St→Prop}{t t2 e e2 k b k2 b2 id off n : Nat}{z z2 : List D}{x y : Operand}{v : AV}{cells cells' : List AC}{ys : List (List D)}
  (ho : o.op = .call { callee:=.builtin .copy,args:=#[x,y],argTypes:=#[t,t2] }) (hg : o.guard = none) (hd : bu c.n o.dst = true) (ht : bz T t = some (e,k,b,z)) (ht2 : bz T t2 = some (e2,k2,b2,z2))
  (hx : ev st x = some (.one (.bsl id off n))) (hl : look st.sto id = some (.box cells)) (hy : ev st y = some v) (hs : eW st k v = some ys) (hn : ys.length≤n) (h48 : ys.length < 2 ^ 48) (hsp : dh off (ys.flatten.map .d) cells = some cells')
  (h : ao P c ops rest ⟨bX o.dst (.one (.d (.int .i64 ys.length))) st.fr,cL id (.box cells') st.sto⟩ K) : ao P c ops (o::rest) st K :=
 bM hg fun a w σ φ hr=>by
  obtain ⟨i,zv,hu,hi,rfl,_⟩:=dE hT ht
  obtain ⟨us,hsrc⟩:=yE hs hr.inv (bh hr hy)
  obtain ⟨⟨A,c',hux⟩,hfirst,hrep,hlen,hone⟩:=hsrc
  have h1 : RepC σ φ st.sto (.bsl id off n) (a.eval x):=bh hr hx
  generalize huxe : a.eval x = ux at h1
  obtain ⟨he,hle⟩:=iV hsp
  cases h1 with
  | dead hxx _=>simp [ci,cv hl] at hxx
  | bsl hl' hp =>
    rename_i B cap cs
    rw [hl] at hl'; cases hl'
    obtain ⟨B',c2,vs,ty,hp',hh,ha,hσ⟩:=hr.inv.obj _ _ hl
    rw [hp] at hp'; cases hp'
    have hlen2:=ha.length
    have hul : us.length = (ys.flatten.map AC.d).length:=by rw [List.length_map]; exact hrep.length.symm
    have hst:=run_storeCells_at P B off ty us 0 vs.toArray w hh (by simp; omega) hone
    simp only [Nat.add_zero] at hst
    have hE : Ext (fun _=>False) φ φ st.sto ((id,.box cells')::st.sto):=Ext.upd hl trivial
    obtain ⟨σ',φ',hr'⟩:=hr.write (o':=.box cells') (arr':=(vs.take off ++ us ++ vs.drop (off + us.length)).toArray) hl hp hh trivial
     ⟨B,cap,_,ty,hp,setRow_heap w B _ _ ty _ hh,iM (Sig.le_refl _) hE (fun j hj=>by cases hj) (by
      rw [he]
      have h2 : All2 (RepC σ φ st.sto) (ys.flatten.map .d) us:=hrep.map_d
      rw [← hul]
      exact ((ha.take off).append h2).append (ha.drop _)),hσ⟩
    refine ⟨.int .i64 ys.length,_,_,σ',φ',?_,hr'.put (v:=.one (.d (.int .i64 ys.length))) hd (RepC.d (.int (oo h48))),h⟩
    have hmin : Nat.min ys.length n = ys.length:=Nat.min_eq_left hn
    have hf:=hfirst P w rfl
    rw [hux] at hf
    have hmin2 : min ys.length n = ys.length:=Nat.min_eq_left hn
    have hc : (Builtin.copy_ #[t,t2] o.type #[.slice (some ⟨B,off,none⟩) n n,a.eval y]).run P w = .ok (.int .i64 ys.length) (w.setRow B (vs.take off ++ us ++ vs.drop (off + us.length)).toArray):=by
     rw [hux]
     simp [Builtin.copy_,run_underlying hu,Builtin.lenOf,hmin2,cn hi,hf,hst,goInt]
    simp [execOp,ho,resolve,invoke,builtin,huxe,hc]
def eO(st : St)(k n : Nat)(acc : List AC) : List (Nat×Operand)→Option (List AC)
 | []=>some acc
 | (i,x)::r=>match ev st x with
   | some v=>match cellsOf v with
     | some cs=>bif Nat.beq cs.length k && Nat.blt i n then (match dh (i * k) cs acc with | some acc'=>eO st k n acc' r | none=>none) else none
     | none=>none
   | none=>none
def AK(T : Tab)(t : TypeId) : Option (Nat×Nat×List D) :=
 match look T t with
 | some ⟨.array n e,_,_,z⟩=>(match look T e with | some td=>some (n,td.size,z) | none=>none)
 | _=>none
theorem qw{st : St}{a : Act}(hrel : Rel c st a w σ φ){k n : Nat} :
  ∀ (parts : List (Nat×Operand)) (acc cs : List AC) (cells : Array Value),eO st k n acc parts = some cs→All2 (RepC σ φ st.sto) acc cells.toList →
    ∃ cells' : Array Value,Instr.fill (fun i=>some (i * k,k)) cells (parts.map fun p=>(p.1,a.eval p.2)) = some cells'∧All2 (RepC σ φ st.sto) cs cells'.toList
 | [],acc,cs,cells,h,ha=>by
   simp [eO] at h; subst h
   exact ⟨cells,rfl,ha⟩
 | (i,x)::parts,acc,cs,cells,h,ha=>by
   simp only [eO] at h
   split at h <;> (try (simp at h; done))
   rename_i v hx
   split at h <;> (try (simp at h; done))
   rename_i cs' hcs
   cases hb : Nat.beq cs'.length k && Nat.blt i n <;> simp only [hb,cond_true,cond_false,reduceCtorEq] at h
   simp only [Bool.and_eq_true] at hb
   split at h <;> (try (simp at h; done))
   rename_i acc' hsp
   have hk:=Nat.eq_of_beq_eq_true hb.1
   obtain ⟨cells1,h1,_,h3⟩:=pi (σ:=σ) (φ:=φ) (sto:=st.sto) (fun i=>some (i * k,k)) (i:=i) (o:=i * k) (acc:=acc) (cs:=cs') (acc':=acc') (cells:=cells) (u:=a.eval x) (rest:=parts.map fun p=>(p.1,a.eval p.2))
    (by rw [hk]) hsp (gi hcs (bh hrel hx)) ha
   obtain ⟨sc,h4,h5⟩:=qw hrel parts acc' cs cells1 h h1
   exact ⟨sc,by rw [List.map_cons,h3,h4],h5⟩
theorem xt(hT : bE P T){ops : Array Oper}{o : Oper}{rest : List Oper}{st : St}{K : St→Prop}{t : TypeId}{parts : Array (Nat×Operand)}{n k : Nat}{z : List D}{cs : List AC}
  (ho : o.op = .build t parts) (hg : o.guard = none) (hd : bu c.n o.dst = true) (ht : AK T t = some (n,k,z)) (hv : eO st k n (z.map .d) parts.toList = some cs)
  (h : ao P c ops rest ⟨bX o.dst (.agg cs) st.fr,st.sto⟩ K) : ao P c ops (o::rest) st K :=
 bM hg fun a w σ φ hr=>by
  unfold AK at ht
  split at ht <;> (try (simp at ht; done))
  rename_i n' e sz b z' hta
  split at ht <;> (try (simp at ht; done))
  rename_i td hte
  simp only [Option.some.injEq,Prod.mk.injEq] at ht
  obtain ⟨rfl,rfl,rfl⟩:=ht
  obtain ⟨i,u,zv,hi,hu,hs,_,hz,hk,hzc,hzb,_,hza,_⟩:=(hT t _ hta).ex
  simp only [ek] at hk; subst hk
  obtain ⟨i2,_,_,hi2,_,hs2,_⟩:=(hT e td hte).ex
  have hzr : All2 (RepC σ φ st.sto) (z'.map .d) zv.cells.toList:=by
   rw [hzc]; exact qI hzb
  obtain ⟨cells',h1,h2⟩:=qw hr (k:=td.size) (n:=n') parts.toList (z'.map .d) cs zv.cells hv hzr
  refine ⟨.agg cells',w,_,σ,φ,?_,hr.put (v:=.agg cs) hd ⟨cells'.toList,by simp,h2⟩,h⟩
  have e1 : (parts.map fun (x : Nat×Operand)=>(x.1,a.eval x.2)).toList = parts.toList.map fun p=>(p.1,a.eval p.2):=by simp
  simp only [execOp,ho,Instr.build,Sem.run_bind,ez hi hz,Result.andThen_ok,run_underlying hu,cn hi2,hs2]
  rw [e1,h1]
  rfl
end Go.Abs
namespace Go.Abs
open Go
variable {P : Program} {c : Ctx} {T : Tab} {σ : Sig} {φ : Pl} {w : World}
abbrev zI:=List (Nat×MTy)
structure Env where
 T : Tab
 E : qG
 M : zI
structure EnvOk (P : Program) (V : Env) : Prop where
 T : bE P V.T
 E : vJ P V.E
 M : ∀ t m,look V.M t = some m→MOk P t m
def bEq : Bool→Bool→Bool
 | true,true | false,false=>true
 | _,_=>false
theorem gF{a b : Bool}(h : bEq a b = true) : a = b:=by cases a <;> cases b <;> first | rfl | simp [bEq] at h
def HP(T : Tab)(t : TypeId) : Option (Nat×Bool×Nat) :=
 match look T t with
 | some ⟨.array n e,_,_,_⟩=>(match look T e with | some td=>some (n,td.kind.isAgg,td.size) | none=>none)
 | _=>none
def vQ(T : Tab)(t : TypeId) : Option AV→Option AV→Option AV
 | some (.one (.d (.int _ n))),some (.agg cs)=>match HP T t with
   | some (m,g,s)=>bif decide (0≤n) && decide (n < (m : Int)) && Nat.blt 0 s then fh g s (cs.drop (n.toNat * s)) else none
   | none=>none
 | _,_=>none
theorem Eh(hT : bE P T){e : TypeId}{td : TD}(he : look T e = some td){off : Nat}{cs : List AC}{v : AV}{sto : Sto}(h0 : 0 < td.size)(hv : fh td.kind.isAgg td.size (cs.drop off) = some v)
  {vs : List Value} (hr : All2 (RepC σ φ sto) cs vs) : ∃ u,(part e vs.toArray off).run P w = .ok u w∧RepV σ φ sto v u:=by
 obtain ⟨i,u,z,hi,hu,hs,hby,hz,hk,_⟩:=(hT e td he).ex
 have hg:=oJ hk
 cases hag : dc u with
 | true =>
   rw [← hg,hag,← hs] at hv
   have h1 : (isAgg e).run P w = .ok true w:=by
    unfold isAgg
    cases u <;> simp [dc] at hag <;> simp [run_underlying hu]
   obtain ⟨hl,hrv⟩:=oa hv (hr.drop off)
   refine ⟨_,by simp [part,h1,sizeOf,typeInfo,hi]; rfl,?_⟩
   have e : List.extract vs off (off + i.size) = (vs.drop off).take i.size:=by
    simp [List.extract_eq_take_drop]
   simpa [e] using hrv
 | false =>
   rw [← hg,hag] at hv
   have h1 : (isAgg e).run P w = .ok false w:=by
    unfold isAgg
    cases u <;> simp [dc] at hag <;> simp [run_underlying hu]
   obtain ⟨x,hx,hrv⟩:=oc hv (hr.drop off)
   have hx' : vs[off]? = some x:=by simpa [List.getElem?_drop] using hx
   exact ⟨x,by simp [part,h1,hx'],hrv⟩
theorem AZ(hT : bE P T){ops : Array Oper}{o : Oper}{rest : List Oper}{st : St}{K : St→Prop}{t : TypeId}{x y : Operand}{v : AV}
  (ho : o.op = .index t x y) (hg : o.guard = none) (hd : bu c.n o.dst = true) (hv : vQ T t (ev st y) (ev st x) = some v)
  (h : ao P c ops rest ⟨bX o.dst v st.fr,st.sto⟩ K) : ao P c ops (o::rest) st K :=
 bM hg fun a w σ φ hr=>by
  unfold vQ at hv
  split at hv <;> (try (simp at hv; done))
  rename_i ik n cs hy hx
  split at hv <;> (try (simp at hv; done))
  rename_i m g s ht
  unfold HP at ht
  split at ht <;> (try (simp at ht; done))
  rename_i n' e sz bb z hta
  split at ht <;> (try (simp at ht; done))
  rename_i td hte
  simp only [Option.some.injEq,Prod.mk.injEq] at ht
  obtain ⟨rfl,rfl,rfl⟩:=ht
  cases hb : decide (0≤n) && decide (n < (n' : Int)) && Nat.blt 0 td.size <;> simp only [hb,cond_true,cond_false,reduceCtorEq] at hv
  simp only [Bool.and_eq_true,decide_eq_true_eq,Nat.blt_eq] at hb
  obtain ⟨i,u,z',hi,hu,_,_,_,hk,_⟩:=(hT t _ hta).ex
  simp only [ek] at hk; subst hk
  obtain ⟨i2,_,_,hi2,_,hs2,_⟩:=(hT e td hte).ex
  obtain ⟨vs,hvs,hrs⟩:=bh hr hx
  have hyr:=RepC.d_inv (bh hr hy)
  generalize hye : a.eval y = yv at hyr
  cases hyr
  obtain ⟨u,hu',hru⟩:=Eh (P:=P) (w:=w) hT hte (off:=n.toNat * td.size) hb.2 hv hrs
  refine ⟨u,w,_,σ,φ,?_,hr.put hd hru,h⟩
  have hlt : (0≤n∧n < (n' : Int)):=hb.1
  simp only [execOp,ho,hvs,hye,Instr.index,asIntOf,Sem.run_bind,Sem.run_pure,Result.andThen_ok,run_underlying hu,if_pos hlt,cn hi2,hs2,hu']
def bw(V : Env)(st : St)(o : Oper)(id : Nat) : Option Ef :=
 match de V.T st o id with
 | some e=>some e
 | none=>match o.op with
   | .binOp op t x y _=>(match ji op,CM V.E t (ev st x) (ev st y) with
     | some e,some b=>some ⟨.one (.d (.bool (b == e))),[],[]⟩
     | _,_=>(match tF op (ev st x) (ev st y) with
       | some d=>some ⟨.one (.d d),[],[]⟩
       | none=>(match ji op,rq st.sto (ev st x),rr st.sto (ev st x) with
         | some e,some b,_=>bif lx V.T t && sw (ev st y) then some ⟨.one (.d (.bool (b == e))),[],[]⟩ else none
         | some e,none,some b=>bif sx V.T t && pS (ev st y) then some ⟨.one (.d (.bool (b == e))),[],[]⟩ else none
         | _,_,_=>none)))
   | .convert src dst x=>(match ev st x with
     | some (.one (.d (.str s)))=>bif fR V.T src && lv V.T dst && Nat.ble s.length 1000000 then some ⟨.one (.d (mV s)),[],[]⟩ else none
     | _=>none)
   | .makeFunc (.func f) ⟨[]⟩ caps=>(match dS st.sto (dp st.sto (cE st caps.toList) []) with
     | some os=>(match jE os st caps.toList with
       | some avs=>(match jw avs with | some ds=>some ⟨.one (.d (.fn f ds)),nk (dp st.sto (cE st caps.toList) []),[]⟩ | none=>none)
       | none=>none)
     | none=>none)
   | .slice t x none none none=>(match nA V.T t,ev st x with
     | some (n,_),some (.one (.ref i off))=>(match look st.sto i with
       | some (.box _)=>some ⟨.one (.bsl i off n),[],[]⟩
       | _=>none)
     | _,_=>none)
   | .call { callee:=.builtin .copy,args:=⟨[x,y]⟩,argTypes:=⟨[t,t2]⟩ }=>(match bz V.T t,bz V.T t2,ev st x,ev st y with
     | some (_,k,_,_),some _,some (.one (.bsl i off n)),some v=>(match look st.sto i,eW st k v with
       | some (.box cells),some ys=>(match dh off (ys.flatten.map .d) cells with
         | some cells'=>bif Nat.ble ys.length n && Nat.ble ys.length 1000000 then some ⟨.one (.d (.int .i64 ys.length)),[(i,some (.box cells'))],[]⟩ else none
         | none=>none)
       | _,_=>none)
     | _,_,_,_=>none)
   | .buildSlice t n parts=>(match dS st.sto (dp st.sto (cE st (parts.toList.map (·.2))) []),bz V.T t with
     | some os,some (_,k,b,_)=>(match ly os st k 0 parts.toList with
       | some xs=>bif gq o.dst && (Nat.beq parts.toList.length n && (Nat.ble (n * k) 1000000 && Nat.ble (n * b) 1000000 && Nat.ble n 1000000)) then some ⟨.one (.own id n),(id,some (.row k b xs))::nk (dp st.sto (cE st (parts.toList.map (·.2))) []),[id]⟩ else none
       | none=>none)
     | _,_=>none)
   | .build t parts=>(match AK V.T t with
     | some (n,k,z)=>(match eO st k n (z.map .d) parts.toList with | some cs=>some ⟨.agg cs,[],[]⟩ | none=>none)
     | none=>none)
   | .index t x y=>(match vQ V.T t (ev st y) (ev st x) with | some v=>some ⟨v,[],[]⟩ | none=>none)
   | .makeMap t none=>(match look V.M t with
     | some m=>bif gq o.dst then some ⟨.one (.mapr id),[(id,some (.map m.kg m.vg []))],[id]⟩ else none
     | none=>none)
   | .lookup t x y ok=>(match look V.M t,ev st x,ev st y with
     | some m,some (.one (.mapr i)),some ky=>(match look st.sto i,kr m.kg ky with
       | some (.map kg vg es),some kd=>bif bEq kg m.kg && bEq vg m.vg && (fb m.ks kd && fO m.ks es) then (match pM m es kd ok with | some v=>some ⟨v,[],[]⟩ | none=>none) else none
       | _,_=>none)
     | _,_,_=>none)
   | .mapUpdate t x y z=>(match look V.M t,ev st x,ev st y,ev st z with
     | some m,some (.one (.mapr i)),some ky,some vl=>(match look st.sto i,kr m.kg ky,kr m.vg vl with
       | some (.map kg vg es),some kd,some vd=>bif bEq kg m.kg && bEq vg m.vg && (fb m.ks kd && fO m.ks es) && !gq o.dst then some ⟨.any,[(i,some (.map m.kg m.vg (gx kd vd es)))],[]⟩ else none
       | _,_,_=>none)
     | _,_,_,_=>none)
   | _=>none
theorem nT{V : Env}(hV : EnvOk P V){o : Oper}{st : St}{id : Nat}{e : Ef}(hd : bu c.n o.dst = true)(h : bw V st o id = some e)(hid : Nat.blt (id + 1) 1000000 = true)(hf : my st e.new) : jo P c o st e:=by
 unfold bw at h
 split at h
 ·rename_i e' he
  simp only [Option.some.injEq] at h; subst h
  exact CZ hV.T hd he hid hf
 split at h
 ·rename_i op t x y ty ho
  split at h
  ·rename_i e' b h1 h2
   simp only [Option.some.injEq] at h; subst h
   intro ops rest K hk
   exact Bo hV.E (o:={ o with guard:=none }) ho h1 rfl hd h2 hk
  ·split at h
   ·rename_i d hdv
    simp only [Option.some.injEq] at h; subst h
    intro ops rest K hk
    exact Cn (o:={ o with guard:=none }) ho rfl hd hdv hk
   ·split at h <;> (try (simp at h; done))
    ·rename_i e' b h1 h2
     cases hb : lx V.T t && sw (ev st y) <;> simp only [hb,cond_true,cond_false,reduceCtorEq,Option.some.injEq] at h
     subst h
     intro ops rest K hk
     exact yp hV.T (o:={ o with guard:=none }) ho h1 rfl hd hb h2 hk
    ·rename_i e' b h1 h2 h3
     cases hb : sx V.T t && pS (ev st y) <;> simp only [hb,cond_true,cond_false,reduceCtorEq,Option.some.injEq] at h
     subst h
     intro ops rest K hk
     exact xq hV.T (o:={ o with guard:=none }) ho h1 rfl hd hb h3 hk
 ·rename_i src dst x ho
  split at h <;> (try (simp at h; done))
  rename_i s hx
  cases hb : fR V.T src && lv V.T dst && Nat.ble s.length 1000000 <;> simp only [hb,cond_true,cond_false,reduceCtorEq,Option.some.injEq] at h
  subst h
  rw [Bool.and_eq_true] at hb
  have hl:=Nat.le_of_ble_eq_true hb.2
  intro ops rest K hk
  exact qs hV.T (o:={ o with guard:=none }) ho rfl hd hb.1 hx (by omega) hk
 ·rename_i f caps ho
  split at h <;> (try (simp at h; done))
  rename_i os hos
  split at h <;> (try (simp at h; done))
  rename_i avs ha
  split at h <;> simp at h
  rename_i ds hds
  subst h
  intro ops rest K hk
  obtain ⟨ss,h1,h2⟩:=gZ hos
  refine sv (o:={ o with guard:=none }) _ ho rfl hd h1 ((k9 h2).trans ha) hds ?_
  rw [jD] at hk
  exact hk
 ·rename_i t x ho
  split at h <;> (try (simp at h; done))
  rename_i n s i off ht hx
  split at h <;> simp at h
  rename_i cells hl
  subst h
  intro ops rest K hk
  exact tJ hV.T (o:={ o with guard:=none }) ho rfl hd ht hx hl hk
 ·rename_i x y t t2 ho
  split at h <;> (try (simp at h; done))
  rename_i e1 k b z q i off n v ht ht2 hx hy
  obtain ⟨q1,q2,q3,q4⟩:=q
  split at h <;> (try (simp at h; done))
  rename_i cells ys hl hs
  split at h <;> (try (simp at h; done))
  rename_i cells' hsp
  cases hb : Nat.ble ys.length n && Nat.ble ys.length 1000000 <;> simp only [hb,cond_true,cond_false,reduceCtorEq,Option.some.injEq] at h
  subst h
  simp only [Bool.and_eq_true,Nat.ble_eq] at hb
  intro ops rest K hk
  exact yq hV.T (o:={ o with guard:=none }) ho rfl hd ht ht2 hx hl hy hs hb.1 (by omega) hsp hk
 ·rename_i t n parts ho
  split at h <;> (try (simp at h; done))
  rename_i os e k b z hos ht
  split at h <;> (try (simp at h; done))
  rename_i xs hxs
  cases hb : gq o.dst && (Nat.beq parts.toList.length n && (Nat.ble (n * k) 1000000 && Nat.ble (n * b) 1000000 && Nat.ble n 1000000)) <;> simp only [hb,cond_true,cond_false,reduceCtorEq,Option.some.injEq] at h
  subst h
  rw [Bool.and_eq_true,Bool.and_eq_true] at hb
  obtain ⟨hD,hb1,hb2⟩:=hb
  intro ops rest K hk
  obtain ⟨d,hdst⟩ : ∃ d,o.dst = some d:=by
   cases h : o.dst with
   | none=>simp [h,gq] at hD
   | some d=>exact ⟨d,rfl⟩
  obtain ⟨f1,f2,f3⟩:=hf id (by simp)
  obtain ⟨ss,h1,h2⟩:=gZ hos
  rw [hdst] at hk hd
  refine p4 hV.T (o:={ o with guard:=none }) _ ho rfl hdst ?_ h1 ht ((uL h2).trans hxs) hb1 hb2 f2 (mh f3) (kj ?_)
  ·simp only [Bool.and_eq_true]
   refine ⟨hd,?_⟩
   have:=Nat.le_of_ble_eq_true hid
   show Nat.ble _ _ = true
   rw [Nat.ble_eq]; omega
  ·simp only [c4,jD] at hk
   exact hk
 ·rename_i t parts ho
  split at h <;> (try (simp at h; done))
  rename_i n k z ht
  split at h <;> simp at h
  rename_i cs hcs
  subst h
  intro ops rest K hk
  exact xt hV.T (o:={ o with guard:=none }) ho rfl hd ht hcs hk
 ·rename_i t x y ho
  split at h <;> simp at h
  rename_i v hv
  subst h
  intro ops rest K hk
  exact AZ hV.T (o:={ o with guard:=none }) ho rfl hd hv hk
 ·rename_i t ho
  split at h <;> (try (simp at h; done))
  rename_i m hm
  cases hD : gq o.dst <;> simp only [hD,cond_true,cond_false,reduceCtorEq,Option.some.injEq] at h
  subst h
  intro ops rest K hk
  obtain ⟨d,hdst⟩ : ∃ d,o.dst = some d:=by
   cases h : o.dst with
   | none=>simp [h,gq] at hD
   | some d=>exact ⟨d,rfl⟩
  obtain ⟨f1,f2,f3⟩:=hf id (by simp)
  rw [hdst] at hk hd
  refine uX (o:={ o with guard:=none }) m.kg m.vg ho rfl hdst ?_ f2 f3 (kj ?_)
  ·simp only [Bool.and_eq_true]
   refine ⟨hd,?_⟩
   have:=Nat.le_of_ble_eq_true hid
   show Nat.ble _ _ = true
   rw [Nat.ble_eq]; omega
  ·exact hk
 ·rename_i t x y ok ho
  split at h <;> (try (simp at h; done))
  rename_i m i ky hm hx hy
  split at h <;> (try (simp at h; done))
  rename_i kg vg es kd hl hk
  cases hb : bEq kg m.kg && bEq vg m.vg && (fb m.ks kd && fO m.ks es) <;> simp only [hb,cond_true,cond_false,reduceCtorEq] at h
  simp only [Bool.and_eq_true] at hb
  split at h <;> simp at h
  rename_i v hv
  subst h
  obtain rfl:=gF hb.1.1
  obtain rfl:=gF hb.1.2
  intro ops rest K hk'
  exact pg (hV.M t m hm) (o:={ o with guard:=none }) ho rfl hd hx hl hy hk hb.2.1 hb.2.2 hv hk'
 ·rename_i t x y z ho
  split at h <;> (try (simp at h; done))
  rename_i m i ky vl hm hx hy hz
  split at h <;> (try (simp at h; done))
  rename_i kg vg es kd vd hl hk hv
  cases hb : bEq kg m.kg && bEq vg m.vg && (fb m.ks kd && fO m.ks es) && !gq o.dst <;> simp only [hb,cond_true,cond_false,reduceCtorEq,Option.some.injEq] at h
  simp only [Bool.and_eq_true,Bool.not_eq_true'] at hb
  subst h
  obtain rfl:=gF hb.1.1.1
  obtain rfl:=gF hb.1.1.2
  have hdst : o.dst = none:=by
   have h2:=hb.2
   cases h : o.dst <;> simp [h,gq] at h2 ⊢
  intro ops rest K hk'
  rw [hdst] at hk'
  exact lX (hV.M t m hm) (o:={ o with guard:=none }) ho rfl hdst hx hl hy hk hb.1.2.1 hb.1.2.2 hz hv hk'
 ·simp at h
theorem CB{s s2 : Sto}{vx : Option AV}(h : ∀ v,vx = some v→∀ i∈cq v,look s2 i = look s i) : rq s2 vx = rq s vx:=by
 unfold rq
 split
 ·rfl
 ·rfl
 ·rw [h _ rfl _ (by simp [cq,eF])]
 ·rfl
theorem CC{s s2 : Sto}{vx : Option AV}(h : ∀ v,vx = some v→∀ i∈cq v,look s2 i = look s i) : rr s2 vx = rr s vx:=by
 unfold rr
 split
 ·rfl
 ·rfl
 ·rw [ku (h _ rfl _ (by simp [cq,eF]))]
 ·rw [ku (h _ rfl _ (by simp [cq,eF]))]
 ·rfl
theorem py{st st2 : St}{k n : Nat} : ∀ {parts : List (Nat×Operand)} {acc : List AC},(∀ p∈parts,ev st2 p.2 = ev st p.2)→eO st2 k n acc parts = eO st k n acc parts
 | [],_,_=>rfl
 | (i,x)::r,acc,h=>by
   have h1:=h (i,x) List.mem_cons_self
   have ih : ∀ {acc},eO st2 k n acc r = eO st k n acc r:=fun {acc}=>py fun p hp=>h p (List.mem_cons_of_mem _ hp)
   simp only at h1
   simp only [eO,h1,ih]
theorem A2{V : Env}{st st2 : St}{o : Oper}{id : Nat}(hs : ∀ t,t∈gk o.op→look st2.fr t = look st.fr t)(hi : ∀ i,i∈cE st o.op.operands.toList→look st2.sto i = look st.sto i) : bw V st2 o id = bw V st o id:=by
 unfold bw
 rw [zL hs hi]
 have he : ∀ {x : Operand},x∈o.op.operands.toList→ev st2 x = ev st x:=fun hx=>eK hs hx
 have hid : ∀ {x : Operand},x∈o.op.operands.toList→∀ v,ev st x = some v→∀ i,i∈cq v→look st2.sto i = look st.sto i:=fun hx v hv i h=>hi i (iP hv h hx)
 split
 ·rfl
 generalize hop : o.op = op at he hid
 split
 ·rename_i op t x y ty
  rw [he (x:=x) (by simp [Op.operands]),he (x:=y) (by simp [Op.operands]),CB (hid (x:=x) (by simp [Op.operands])),CC (hid (x:=x) (by simp [Op.operands]))]
 ·rename_i src dst x
  rw [he (x:=x) (by simp [Op.operands])]
 ·rename_i f caps
  have hcap : ∀ x∈caps.toList,ev st2 x = ev st x:=fun x hx=>he (by simp [Op.operands]; simpa using hx)
  have hids : ∀ {l : List Operand},(∀ x∈l,ev st2 x = ev st x)→cE st2 l = cE st l:=by
   intro l
   induction l with
   | nil=>intro _; rfl
   | cons x r ih =>
     intro h
     simp only [cE,pU,h x List.mem_cons_self,ih fun y hy=>h y (List.mem_cons_of_mem _ hy)]
  have hi' : ∀ i∈cE st caps.toList,look st2.sto i = look st.sto i:=fun i h=>hi i (by
   have hmem : ∀ {l : List Operand} {l' : List Operand},i∈cE st l→(∀ x∈l,x∈l')→i∈cE st l':=by
    intro l
    induction l with
    | nil=>intro l' h; simp [cE] at h
    | cons x r ih =>
      intro l' h hs
      simp only [cE,List.mem_append] at h
      rcases h with h | h
      ·unfold pU at h
       split at h
       ·rename_i v hv
        exact iP hv h (hs x List.mem_cons_self)
       ·simp at h
      ·exact ih h fun y hy=>hs y (List.mem_cons_of_mem _ hy)
   exact hmem h fun x hx=>by rw [hop]; simp [Op.operands]; simpa using hx)
  rw [hids hcap,kb hi']
  have ho : dS st2.sto (dp st.sto (cE st caps.toList) []) = dS st.sto (dp st.sto (cE st caps.toList) []):=je fun i h=>by
   rcases kM h with h | h
   ·exact hi' i h
   ·simp at h
  rw [ho]
  simp only [lC hcap]
 ·rename_i t x
  rw [he (x:=x) (by simp [Op.operands])]
  split
  ·rename_i n s i off ht hx
   rw [hid (x:=x) (by simp [Op.operands]) _ hx i (by simp [cq,eF])]
  ·rfl
 ·rename_i x y t t2
  rw [he (x:=x) (by simp [Op.operands,Call.operands]),he (x:=y) (by simp [Op.operands,Call.operands])]
  split
  ·rename_i e1 k b z q i off n v ht ht2 hx hy
   rw [hid (x:=x) (by simp [Op.operands,Call.operands]) _ hx i (by simp [cq,eF]),nB (hid (x:=y) (by simp [Op.operands,Call.operands]) _ hy)]
  ·rfl
 ·rename_i t n parts
  have hpar : ∀ p∈parts.toList,ev st2 p.2 = ev st p.2:=fun p hp=>he (by
   simp only [Op.operands,Array.toList_map,List.mem_map]
   exact ⟨p,by simpa using hp,rfl⟩)
  have hids : ∀ {l : List (Nat×Operand)},(∀ p∈l,ev st2 p.2 = ev st p.2)→cE st2 (l.map (·.2)) = cE st (l.map (·.2)):=by
   intro l
   induction l with
   | nil=>intro _; rfl
   | cons x r ih =>
     intro h
     simp only [List.map_cons,cE,pU,h x List.mem_cons_self,ih fun y hy=>h y (List.mem_cons_of_mem _ hy)]
  have hi' : ∀ i∈cE st (parts.toList.map (·.2)),look st2.sto i = look st.sto i:=fun i h=>hi i (by
   rw [hop]
   simpa [Op.operands] using h)
  rw [hids hpar,kb hi']
  have ho : dS st2.sto (dp st.sto (cE st (parts.toList.map (·.2))) []) = dS st.sto (dp st.sto (cE st (parts.toList.map (·.2))) []):=je fun i h=>by
   rcases kM h with h | h
   ·exact hi' i h
   ·simp at h
  rw [ho]
  simp only [qu hpar]
 ·rename_i t parts
  have : ∀ {k n acc},eO st2 k n acc parts.toList = eO st k n acc parts.toList:=fun {k n acc}=>py fun p hp=>he (by
   simp only [Op.operands,Array.toList_map,List.mem_map]
   exact ⟨p,by simpa using hp,rfl⟩)
  simp only [this]
 ·rename_i t x y
  rw [he (x:=x) (by simp [Op.operands]),he (x:=y) (by simp [Op.operands])]
 ·rfl
 ·rename_i t x y ok
  rw [he (x:=x) (by simp [Op.operands]),he (x:=y) (by simp [Op.operands])]
  split
  ·rename_i m i ky hm hx hy
   rw [hid (x:=x) (by simp [Op.operands]) _ hx i (by simp [cq,eF])]
  ·rfl
 ·rename_i t x y z
  rw [he (x:=x) (by simp [Op.operands]),he (x:=y) (by simp [Op.operands]),he (x:=z) (by simp [Op.operands])]
  split
  ·rename_i m i ky vl hm hx hy hz
   rw [hid (x:=x) (by simp [Op.operands]) _ hx i (by simp [cq,eF])]
  ·rfl
 ·rfl
def qF(st : St)(op : Op) : List Nat:=match op with
 | .move _ | .assign _=>[]
 | op=>cE st op.operands.toList
theorem yx{V : Env}{st st2 : St}{o : Oper}{id : Nat}(hs : ∀ t,t∈gk o.op→look st2.fr t = look st.fr t)(hi : ∀ i,i∈qF st o.op→look st2.sto i = look st.sto i) : bw V st2 o id = bw V st o id:=by
 have he : ∀ {x : Operand},x∈o.op.operands.toList→ev st2 x = ev st x:=fun hx=>eK hs hx
 generalize hop : o.op = op at he
 cases op with
 | move x =>
   have h1:=he (x:=x) (by simp [Op.operands])
   simp only [bw,de,hop,cy,h1,cX,kA]
 | assign x =>
   have h1:=he (x:=x) (by simp [Op.operands])
   simp only [bw,de,hop,cy,h1,cX,kA]
 | _=>exact A2 hs (by rw [hop] at hi ⊢; exact hi)
theorem lD{V : Env}(hV : EnvOk P V){o : Oper}{st : St}{id : Nat}{e : Ef}(hd : bu c.n o.dst = true)(h : bw V st o id = some e)(hid : Nat.blt (id + 1) 1000000 = true) : Loc P c o st (e.tr (qF st o.op)):=by
 intro st2 hs hri hnew ops rest K hk
 exact nT hV hd ((yx hs hri).trans h) hid hnew ops rest K hk
end Go.Abs
