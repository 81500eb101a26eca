import Derived.Test.YtpejdgkaapnekaaGreatRows
import Derived.Deep.Slices
import Derived.Deep.DeepHandedRow
import Derived.ReadAgain
import Derived.MapPlaces
import Derived.WalkKit
import Derived.ProofKit
import Derived.OpenShut
import Derived.JoinedCond
import Derived.Shelf.SlSortCmp.WholeK
import Derived.Shelf.SlSortCmp.NoneTotal
import Derived.Test.YtpejdgkaapnekaaGreatGP16
import Derived.Test.YtpejdgkaapnekaaGreatGP15
import Derived.Test.YtpejdgkaapnekaaGreatGTab
set_option linter.unusedVariables false
set_option linter.unusedSimpArgs false
set_option linter.unnecessarySimpa false
set_option maxHeartbeats 1000000
namespace Go.Proofs.YtpejdgkaapnekaaGreat
open Go Go.Abs
open Go.ChangeShapes Go.WideShapes Go.ChangeAt Go.RowKit
section
variable {H : Type} {en : TypeId×Value→H} {W : World}
theorem sA(d : DataW H) : 1≤Rows.uptoBulk d:=by
 cases d with
 | lit l=>cases l <;> simp [Rows.uptoBulk]
 | _=>simp [Rows.uptoBulk]
theorem oU{d : DataW H} : ∀ {l : List (DataW H)},d∈l→Rows.uptoBulk d≤Rows.uptoBulkAll l
 | [],h=>by simp at h
 | x::r,h=>by
   simp only [Rows.uptoBulkAll]
   rcases List.mem_cons.1 h with rfl | h
   ·omega
   ·have:=oU h; omega
theorem yM : ∀ (l : List (DataW H)),l.length≤Rows.uptoBulkAll l
 | []=>by simp [Rows.uptoBulkAll]
 | x::r=>by have:=sA x; have:=yM r; simp only [Rows.uptoBulkAll,List.length_cons]; omega
def sg(W : World) : Sig:=fun b=>match W.heap[b]? with | some (.cells cs _ _)=>some cs | _=>none
theorem A3{b : Nat}{cs : Array Value}(h : sg W b = some cs) : ∃ t f,W.heap[b]? = some (.cells cs t f):=by
 unfold sg at h
 split at h
 ·rename_i c t f hh; cases h; exact ⟨t,f,hh⟩
 ·cases h
theorem JL(φ : Pl) : HInv (sg W) φ [] W:=⟨fun b cs h=>A3 h,fun i e h=>by simp [Abs.look] at h,fun i i' e e' p p' h=>by simp [Abs.look] at h⟩
def Rd(en : TypeId×Value→H)(W : World)(N : Nat)(t : TypeId){α : Type}(f : α→List D)(Q : α→Prop) : Prop :=
 ∀ (fuel : Nat) (cs : List Value) (x : DataW H×List MemPlace),DataW.trod en Tryz.prog W 0 (fun _=>true) true fuel t cs = some x→Rows.uptoBulk x.1≤N→∃ a : α,Q a∧All2 (Rep (sg W)) (f a) cs
def yes{α : Type}(_ : α) : Prop:=True
theorem Rd.mono{N M : Nat}{t : TypeId}{α : Type}{f : α→List D}{Q : α→Prop}(h : Rd en W N t f Q)(hm : M≤N) : Rd en W M t f Q:=fun fuel cs x hx hb=>h fuel cs x hx (by omega)
theorem iT{N : Nat}{t : TypeId}(ht : Tryz.prog.underlying t = some (.int .i64)) : Rd en W N t (fun n : Int=>[.int .i64 n]) yes:=by
 intro fuel cs x h _
 obtain ⟨n,rfl,_,hw⟩:=DataW.trod_int ht h
 have hw':=bounds_i64 hw
 refine ⟨n,trivial,.int ?_,trivial⟩
 simp only [inR,IntKind.min,IntKind.max,IntKind.signed,IntKind.bits,if_true]
 omega
theorem tI{N : Nat}{t : TypeId}(hN : N≤1048576)(ht : Tryz.prog.underlying t = some .string) : Rd en W N t (fun s : List UInt8=>[.str s]) yes:=by
 intro fuel cs x h hb
 obtain ⟨s,rfl,rfl,_⟩:=DataW.trod_string ht h
 simp only [Rows.uptoBulk] at hb
 have:=Rep.str (σ:=sg W) (s:=s.data.toList) (by omega)
 refine ⟨s.data.toList,trivial,?_,trivial⟩
 simpa using this
def Cz{α : Type}(N : Nat)(Q : α→Prop)(l : List α) : Prop:=l.length≤N∧∀ x∈l,Q x
theorem hJ{N k b : Nat}{t e : TypeId}{α : Type}[Inhabited α]{f : α→List D}{Q : α→Prop}(hN : N≤1048575)(hb : b≤1000)(hk : 0 < k)(ht : Tryz.prog.underlying t = some (.slice e))(hc : Tryz.prog.cellsOf e = k)(he : Rd en W N e f Q) : Rd en W (N + 1) t (fun l : List α=>[.sl k b (l.map f)]) (Cz N Q):=by
 intro fuel cs x h hbk
 rcases Deep.open_slice ht h with ⟨rfl,rfl⟩ | ⟨a,len,cap,m,n,Dd,Pl,rfl,_,hl,_,hm,rfl,hel⟩
 ·refine ⟨[],⟨by simp,by simp⟩,?_,trivial⟩
  exact .sl (fun _ _=>undef) (by simp) (by simp) (by simp) (by simp) (by simp) (by simp)
 ·simp only [if_true] at hm
  subst hm
  rw [hc] at hel
  simp only [Rows.uptoBulk] at hbk
  have hlen : len≤N:=by
   have:=yM ((List.range len).map Dd)
   simp only [List.length_map,List.length_range] at this
   omega
  have hpart : ∀ i,i < len→Rows.uptoBulk (Dd i)≤N:=by
   intro i hi
   have:=oU (d:=Dd i) (l:=(List.range len).map Dd) (List.mem_map.2 ⟨i,List.mem_range.2 hi,rfl⟩)
   omega
  obtain ⟨g,hg⟩:=Deep.choose_lt (n:=len) (p:=fun i (y : α)=>Q y∧∃ cs',W.cells? 0 (a.add (i * k)) k = some cs'∧All2 (Rep (sg W)) (f y) cs') (fun i hi=>by
   obtain ⟨cs',h1,h2⟩:=hel i (by omega)
   obtain ⟨y,hq,hy⟩:=he _ _ _ h2 (hpart i hi)
   exact ⟨y,hq,cs',h1,hy⟩)
  have hcell : ∀ i,i < len→∀ j,j < k→∃ v,W.cell? ((a.add (i * k)).add j) = some v∧∀ d,(f (g i))[j]? = some d→Rep (sg W) d v:=by
   intro i hi j hj
   obtain ⟨_,cs',h1,h2⟩:=hg i hi
   obtain ⟨_,h3,h4⟩:=World.cells?_some h1
   have h5 : cs'[j]? = some (cs'[j]'(by omega)):=List.getElem?_eq_getElem (by omega)
   refine ⟨_,(h4 j hj).trans h5,fun d hd=>?_⟩
   obtain ⟨v,hv,hr⟩:=h2.get hd
   rw [h5] at hv; cases hv; exact hr
  have hfl : ∀ i,i < len→(f (g i)).length = k:=by
   intro i hi
   obtain ⟨_,cs',h1,h2⟩:=hg i hi
   rw [h2.length]; exact (World.cells?_some h1).2.1
  have hadd : ∀ i j,i < len→j < k→a.spot = none→((a.add (i * k)).add j) = ⟨a.block,a.off + i * k + j,none⟩:=by
   intro i j _ _ hs
   obtain ⟨B,o,sp⟩:=a
   simp only at hs
   subst hs
   by_cases h1 : i * k = 0 <;> by_cases h2 : j = 0 <;> simp [Addr.add,h1,h2]
  have hA : 0 < len→∃ cells : Array Value,a.spot = none∧sg W a.block = some cells:=by
   intro h0
   obtain ⟨v,hv,_⟩:=hcell 0 h0 0 hk
   have e0 : ((a.add (0 * k)).add 0) = a:=by simp [Addr.add]
   rw [e0] at hv
   unfold World.cell? at hv
   unfold sg
   split at hv
   ·rename_i c t2 f2 hh
    rw [hh]
    split at hv
    ·cases hv
    ·rename_i hs
     exact ⟨c,by simpa using hs,rfl⟩
   ·cases hv
  refine ⟨(List.range len).map g,⟨by simpa using hlen,fun y hy=>?_⟩,?_,trivial⟩
  ·obtain ⟨i,hi,rfl⟩:=List.mem_map.1 hy
   exact (hg i (List.mem_range.1 hi)).1
  have hll : (((List.range len).map g).map f).length = len:=by simp
  have key : Rep (sg W) (.sl k b (((List.range len).map g).map f)) (.slice (some a) (((List.range len).map g).map f).length m):=by
   refine .sl (fun i j=>(W.cell? ((a.add (i * k)).add j)).getD undef) (by rw [hll]; exact hl) (by rw [hll]; omega) (by
    rw [hll]
    have : len * b≤1048576 * 1000:=Nat.mul_le_mul (by omega) hb
    omega) (fun x hx=>?_) (fun h0=>?_) (fun i j x d hx hd=>?_)
   ·simp only [List.mem_map,List.mem_range] at hx
    obtain ⟨y,⟨i,hi,rfl⟩,rfl⟩:=hx
    exact hfl i hi
   ·rw [hll] at h0
    obtain ⟨cells,hs,hsg⟩:=hA h0
    refine ⟨a.block,a.off,cells,?_,hsg,fun i j hi hj=>?_⟩
    ·obtain ⟨B,o,sp⟩:=a; simp only at hs; subst hs; rfl
    ·rw [hll] at hi
     obtain ⟨v,hv,_⟩:=hcell i hi j hj
     rw [hv]
     rw [hadd i j hi hj hs] at hv
     obtain ⟨t2,f2,hh⟩:=A3 hsg
     simp only [World.cell?,hh] at hv
     simpa using hv
   ·simp only [List.getElem?_map,Option.map_eq_some_iff] at hx
    obtain ⟨y,⟨i',hi',rfl⟩,rfl⟩:=hx
    have hi : i < len:=by
     have:=(List.getElem?_eq_some_iff.1 hi').1
     simpa using this
    have hii : i' = i:=by simpa [List.getElem?_range hi] using hi'.symm
    subst hii
    have hj : j < k:=by rw [← hfl i' hi]; exact (List.getElem?_eq_some_iff.1 hd).1
    obtain ⟨v,hv,hr⟩:=hcell i' hi j hj
    rw [hv]
    exact hr d hd
  rw [hll] at key
  exact key
theorem d8{R : D→Value→Prop}{a b : List D}{cs : List Value}{o n m : Nat}(h1 : All2 R a ((cs.drop o).take n))(h2 : All2 R b ((cs.drop (o + n)).take m)) : All2 R (a ++ b) ((cs.drop o).take (n + m)):=by
 rw [List.take_add,List.drop_drop]
 exact h1.append h2
theorem cD{N : Nat}{t u : TypeId}{fs : Array Field}{fuel : Nat}{cs : List Value}{x : DataW H×List MemPlace}(ht : Tryz.prog.underlying t = some (.struct fs))(h : DataW.trod en Tryz.prog W 0 (fun _=>true) true fuel t cs = some x)(hb : Rows.uptoBulk x.1≤N + 1)
  (i : Nat) {fd : Field} (hf : fs[i]? = some fd) {α : Type} {f : α→List D} {Q : α→Prop} (hr : Rd en W N fd.type f Q) {c : Nat} (hc : Tryz.prog.cellsOf fd.type = c) : ∃ a,Q a∧All2 (Rep (sg W)) (f a) ((cs.drop fd.offset).take c):=by
 subst hc
 obtain ⟨xs,n,_,rfl,_,hl,hx⟩:=DataW.trod_struct ht h
 have h2:=hx i fd hf
 have hi : i < xs.length:=by rw [hl]; exact (Array.getElem?_eq_some_iff.1 hf).1
 rw [List.getElem?_eq_getElem hi] at h2
 refine hr _ _ _ h2 ?_
 have:=oU (d:=(xs[i]).1) (l:=xs.map (·.1)) (List.mem_map.2 ⟨_,List.getElem_mem hi,rfl⟩)
 simp only [Rows.uptoBulk] at hb
 omega
theorem nL{t : TypeId}{fs : Array Field}{fuel : Nat}{cs : List Value}{x : DataW H×List MemPlace}(ht : Tryz.prog.underlying t = some (.struct fs))(h : DataW.trod en Tryz.prog W 0 (fun _=>true) true fuel t cs = some x) : cs.length = Tryz.prog.cellsOf t:=by
 obtain ⟨_,_,_,_,hl,_⟩:=DataW.trod_struct ht h
 exact hl
theorem kT : Tryz.prog.cellsOf 3 = 1:=by kernel_rfl
theorem tJ : Tryz.prog.cellsOf 2 = 1:=by kernel_rfl
theorem tK : Tryz.prog.cellsOf 9 = 1:=by kernel_rfl
theorem uS : Tryz.prog.cellsOf 28 = 4:=by kernel_rfl
theorem H2 : Tryz.prog.cellsOf 29 = 1:=by kernel_rfl
theorem A4 : Tryz.prog.cellsOf 31 = 7:=by kernel_rfl
theorem A5 : Tryz.prog.cellsOf 82 = 2:=by kernel_rfl
theorem A6 : Tryz.prog.cellsOf 53 = 3:=by kernel_rfl
theorem H3 : Tryz.prog.cellsOf 22 = 1:=by kernel_rfl
theorem H4 : Tryz.prog.cellsOf 23 = 1:=by kernel_rfl
theorem H5 : Tryz.prog.cellsOf 24 = 1:=by kernel_rfl
theorem H6 : Tryz.prog.cellsOf 26 = 3:=by kernel_rfl
theorem mn{R : D→Value→Prop}{a : List D}{cs : List Value}{n : Nat}(h : All2 R a ((cs.drop 0).take n))(hl : cs.length = n) : All2 R a cs:=by
 rw [List.drop_zero,List.take_of_length_le (by omega)] at h; exact h
theorem EA{N : Nat}(hN : N≤1048575) : Rd en W (N + 1) 28 (fun v : Val=>[.int .i64 v.kind,.int .i64 v.num,.int .i64 v.den,.str v.str]) yes:=by
 intro fuel cs x h hb
 obtain ⟨k,_,hk⟩:=cD (u:=0) Tryz.underlying28 h hb 0 rfl (iT Tryz.underlying3) kT
 obtain ⟨n,_,hn⟩:=cD (u:=0) Tryz.underlying28 h hb 1 rfl (iT Tryz.underlying2) tJ
 obtain ⟨d,_,hd⟩:=cD (u:=0) Tryz.underlying28 h hb 2 rfl (iT Tryz.underlying2) tJ
 obtain ⟨s,_,hs⟩:=cD (u:=0) Tryz.underlying28 h hb 3 rfl (tI (by omega) Tryz.underlying9) tK
 exact ⟨⟨k,n,d,s⟩,trivial,mn (d8 (d8 (d8 hk hn) hd) hs) ((nL Tryz.underlying28 h).trans uS)⟩
theorem Kf{N : Nat}(hN : N≤1048575) : Rd en W (N + 1) 53 bv yes:=by
 intro fuel cs x h hb
 obtain ⟨s,_,hs⟩:=cD (u:=0) Tryz.underlying53 h hb 0 rfl (tI (by omega) Tryz.underlying9) tK
 obtain ⟨k,_,hk⟩:=cD (u:=0) Tryz.underlying53 h hb 1 rfl (iT Tryz.underlying3) kT
 obtain ⟨n,_,hn⟩:=cD (u:=0) Tryz.underlying53 h hb 2 rfl (iT Tryz.underlying3) kT
 exact ⟨⟨s,k,n⟩,trivial,mn (d8 (d8 hs hk) hn) ((nL Tryz.underlying53 h).trans A6)⟩
theorem H7{N : Nat}(hN : N≤1048575) : Rd en W (N + 1) 82 iz yes:=by
 intro fuel cs x h hb
 obtain ⟨s,_,hs⟩:=cD (u:=0) Tryz.underlying82 h hb 0 rfl (tI (by omega) Tryz.underlying9) tK
 obtain ⟨k,_,hk⟩:=cD (u:=0) Tryz.underlying82 h hb 1 rfl (iT Tryz.underlying3) kT
 exact ⟨⟨s,k⟩,trivial,mn (d8 hs hk) ((nL Tryz.underlying82 h).trans A5)⟩
theorem Ed : ∀ (N : Nat),N≤1048576→Rd en W N 31 oT yes:=by
 intro N
 induction N using Nat.strongRecOn with
 | _ N ih =>
   intro hN fuel cs x h hb
   have h1:=sA x.1
   obtain ⟨xs,n0,_,hx,_,hl,hfx⟩:=DataW.trod_struct Tryz.underlying31 h
   obtain ⟨M,rfl⟩ : ∃ M,N = M + 1:=⟨N - 1,by omega⟩
   obtain ⟨o,_,ho⟩:=cD (u:=0) Tryz.underlying31 h hb 0 rfl (iT Tryz.underlying3) kT
   obtain ⟨s,_,hs⟩:=cD (u:=0) Tryz.underlying31 h hb 1 rfl (tI (by omega) Tryz.underlying9) tK
   have hM : 1≤M:=by
    have hi : 0 < xs.length:=by rw [hl]; decide
    have h3:=oU (d:=(xs[0]).1) (l:=xs.map (·.1)) (List.mem_map.2 ⟨_,List.getElem_mem hi,rfl⟩)
    have h4:=sA (xs[0]).1
    rw [hx] at hb
    simp only [Rows.uptoBulk] at hb
    omega
   obtain ⟨L,rfl⟩ : ∃ L,M = L + 1:=⟨M - 1,by omega⟩
   obtain ⟨v,_,hv⟩:=cD (u:=0) Tryz.underlying31 h hb 2 rfl (EA (N:=L) (by omega)) uS
   obtain ⟨l,_,hlst⟩:=cD (u:=0) Tryz.underlying31 h hb 3 rfl (hJ (k:=7) (b:=88) (by omega) (by omega) (by omega) Tryz.underlying29 A4 (ih L (by omega) (by omega))) H2
   refine ⟨.mk o s v l,trivial,?_⟩
   rw [uJ]
   exact mn (d8 (d8 (d8 ho hs) hv) hlst) ((nL Tryz.underlying31 h).trans A4)
theorem H8 : Tryz.prog.cellsOf 37 = 1:=by kernel_rfl
theorem H9 : Tryz.prog.cellsOf 54 = 1:=by kernel_rfl
theorem A7 : Tryz.prog.cellsOf 56 = 2:=by kernel_rfl
def Gj(N : Nat)(c : Cell) : Prop:=c.at'.length≤N∧c.vals.length≤N
theorem Ia{N : Nat}(hN : N≤1048573) : Rd en W (N + 3) 56 av (Gj (N + 1)):=by
 intro fuel cs x h hb
 obtain ⟨a,qa,ha⟩:=cD (u:=0) Tryz.underlying56 h hb 0 rfl (hJ (f:=bD) (N:=N + 1) (k:=1) (b:=8) (by omega) (by omega) (by omega) Tryz.underlying37 kT (iT Tryz.underlying3)) H8
 obtain ⟨v,qv,hv⟩:=cD (u:=0) Tryz.underlying56 h hb 1 rfl (hJ (f:=ab) (N:=N + 1) (k:=4) (b:=40) (by omega) (by omega) (by omega) Tryz.underlying54 uS (EA (by omega))) H9
 exact ⟨⟨a,v⟩,⟨qa.1,qv.1⟩,mn (d8 ha hv) ((nL Tryz.underlying56 h).trans A7)⟩
def JS(N : Nat)(a : Arr) : Prop:=Cz N yes a.dims∧Cz N yes a.attrs∧Cz N (Gj N) a.cells
theorem JK{N : Nat}(hN : N≤1048571) : Rd en W (N + 5) 26 EB (JS (N + 3)):=by
 intro fuel cs x h hb
 obtain ⟨d,qd,hd⟩:=cD (u:=0) Tryz.underlying26 h hb 0 rfl (hJ (f:=bv) (N:=N + 3) (k:=3) (b:=32) (by omega) (by omega) (by omega) Tryz.underlying22 A6 (Kf (by omega))) H3
 obtain ⟨a,qa,ha⟩:=cD (u:=0) Tryz.underlying26 h hb 1 rfl (hJ (f:=iz) (N:=N + 3) (k:=2) (b:=24) (by omega) (by omega) (by omega) Tryz.underlying23 A5 (H7 (by omega))) H4
 obtain ⟨c,qc,hc⟩:=cD (u:=0) Tryz.underlying26 h hb 2 rfl (hJ (f:=av) (N:=N + 3) (k:=2) (b:=48) (by omega) (by omega) (by omega) Tryz.underlying24 A7 (Ia (by omega))) H5
 exact ⟨⟨d,a,c⟩,⟨qd,qa,qc.1,fun x hx=>by have:=qc.2 x hx; unfold Gj at *; omega⟩,mn (d8 (d8 hd ha) hc) ((nL Tryz.underlying26 h).trans H6)⟩
theorem tw{P : Program}{t : TypeId}{fs : Array Field}{r : Reach}{base : Nat}{v : Value}(ht : P.underlying t = some (.struct fs))(h : Value.okWide P W r base t v) : ∃ cs : List Value,v = .agg cs.toArray:=by
 unfold Value.okWide at h
 rw [ht] at h
 obtain ⟨cs,rfl,_⟩:=h
 exact ⟨cs.toList,by simp⟩
theorem yt{W' : World} : ∀ {ts : List TypeId} {vs : List Value} {ds : List (DataW H)} {ps : List MemPlace},DataW.TrodAll en Tryz.prog W 0 (fun _=>true) true ts vs ds ps→(∀ p∈ps,W.sameAt W' p)→DataW.TrodAll en Tryz.prog W' 0 (fun _=>true) true ts vs ds ps
 | [],[],[],_,h,_=>h
 | _::_,_::_,_::_,_,⟨p,q,⟨n,h1⟩,h2,e⟩,hs=>⟨p,q,⟨n,DataW.trod_carry n _ _ _ h1 fun x hx=>hs x (by rw [e]; exact List.mem_append_left _ hx)⟩,yt h2 fun x hx=>hs x (by rw [e]; exact List.mem_append_right _ hx),e⟩
theorem own : ownKnob Tryz.prog.godebug = none:=by kernel_rfl
theorem Oe : Kids Tryz.prog (· < Tryz.prog.types.size):=kids_rows (by kernel_rfl) (by kernel_rfl)
set_option maxRecDepth 100000 in
theorem Of : ∀ t e,t < Tryz.prog.types.size→Tryz.prog.underlying t = some (.slice e)→0 < Tryz.prog.cellsOf e:=slices_full_of Tryz.prog (by kernel_rfl)
theorem wh{W' : World}(h : Kept (MOf (fun _=>none) []) W W') : ∀ b,b < W.heap.size→W'.heap[b]? = W.heap[b]?:=fun b hb=>h.block b hb (by rintro ⟨id,e,p,h1,_⟩; simp [Abs.look] at h1)
theorem HV{W' : World}(h : Kept (MOf (fun _=>none) []) W W')(may : MemPlace→Prop) : W.keptBut W' may :=
 ⟨h.os,h.output,fun i hi=>by rw [wh h i hi]; exact (World.keptBut_refl W may).2.2 i hi⟩
theorem F6{W' : World}(h : Kept (MOf (fun _=>none) []) W W'){p : MemPlace}(hp : p.block < W.heap.size) : W.sameAt W' p:=by
 have hb:=wh h p.block hp
 cases p with
 | cell b off=>show W'.cell? ⟨b,off,none⟩ = W.cell? ⟨b,off,none⟩; unfold World.cell?; rw [show W'.heap[b]? = W.heap[b]? from hb]
 | map b=>exact hb
theorem lQ{σ : Sig}{φ : Pl}{sto : Sto} : ∀ {ds : List D} {vs : List Value},All2 (Rep σ) ds vs→All2 (RepC σ φ sto) (ds.map .d) vs
 | [],[],_=>trivial
 | d::r,v::vs,h=>⟨.d h.1,lQ h.2⟩
 | [],_::_,h=>h.elim
 | _::_,[],h=>h.elim
theorem tsz : Nat.blt 300 Tryz.prog.types.size = true:=by kernel_rfl
theorem few{t : Nat}(h : t≤300) : t < Tryz.prog.types.size:=by have:=Nat.blt_eq.mp tsz; omega
theorem F7{W' : World}{base : Nat}{sp : Nat→Bool}{held : Bool}(b : Bool) : DataW.Trod en Tryz.prog W' base sp held 4 (.bool b) (.lit (.bool b)) []:=⟨1,by simp [DataW.trod,Value.cells,Tryz.underlying4]⟩
end
end Go.Proofs.YtpejdgkaapnekaaGreat
namespace Go.Abs
open Go
variable {P : Program} {c : Ctx} {σ σ' : Sig} {φ φ' : Pl} {w w' : World}
theorem HInv.ren{S : Sto}(r : Nat→Nat)(h : HInv σ φ S w)(hk : (ch (aY S) && ch (iE r (aY S)) && rV r (aY S) && bd S S) = true) :
  ∃ φ',HInv σ φ' (fC r S) w∧(∀ j o,look S j = some o→look (fC r S) (r j) = some (co r o)∧φ' (r j) = φ j)∧(∀ t e,look (fC r S) t = some e→∃ j o,t = r j∧look S j = some o∧e = co r o)∧∀ t,Pin t→φ' t = φ t:=by
 simp only [Bool.and_eq_true] at hk
 obtain ⟨⟨⟨h1,h2⟩,h3⟩,h4⟩:=hk
 classical
 let φ' : Pl:=fun t=>if h : ∃ i,i∈aY S∧r i = t then φ h.choose else φ t
 have hφ : ∀ {i : Nat},i∈aY S→φ' (r i) = φ i:=by
  intro i hi
  have hex : ∃ j,j∈aY S∧r j = r i:=⟨i,hi,rfl⟩
  show (if h : ∃ j,j∈aY S∧r j = r i then φ h.choose else φ (r i)) = φ i
  rw [dif_pos hex]
  have:=hex.choose_spec
  rw [mA h2 this.1 hi this.2]
 have hR : ∀ j o,look S j = some o→look (fC r S) (r j) = some (co r o)∧φ' (r j) = φ j:=fun j o hj=>⟨mC h2 hj,hφ (lS hj)⟩
 refine ⟨φ',⟨h.sig,fun t e ht=>?_,fun t t' e e' p p' ht ht' hne hp hp'=>?_⟩,hR,fun t e ht=>di h1 ht,fun t ht=>?_⟩
 ·obtain ⟨i,o,rfl,hi,rfl⟩:=di h1 ht
  exact wS hR hi (eU h4 hi) (h.obj _ _ hi)
 ·obtain ⟨i,o,rfl,hi,rfl⟩:=di h1 ht
  obtain ⟨i',o',rfl,hi',rfl⟩:=di h1 ht'
  rw [(hR _ _ hi).2] at hp
  rw [(hR _ _ hi').2] at hp'
  exact h.inj _ _ _ _ _ _ hi hi' (fun e=>hne (by rw [e])) hp hp'
 ·show (if h : ∃ j,j∈aY S∧r j = t then φ h.choose else φ t) = _
  split
  ·rename_i hex
   have hs:=hex.choose_spec
   have:=um h3 hs.1 (by rw [hs.2]; exact ht)
   rw [hs.2] at this
   rw [← this]
  ·rfl
theorem yK{S : Sto}{r : Nat→Nat}(hR : ∀ j o,look S j = some o→look (fC r S) (r j) = some (co r o)∧φ' (r j) = φ j) : ∀ {avs : List AV} {vs : List Value},da S avs = true→All2 (RepV σ φ S) avs vs→All2 (RepV σ φ' (fC r S)) (cJ r avs) vs
 | [],[],_,_=>trivial
 | x::l,v::vs,h,ha=>by
   simp only [da,Bool.and_eq_true] at h
   exact ⟨reV hR h.1 ha.1,yK hR h.2 ha.2⟩
 | [],_::_,_,ha=>ha.elim
 | _::_,[],_,ha=>ha.elim
theorem vY{f : FuncId}{avs avs0 : List AV}{s s0 s' s1 : Sto}{rav : AV}(q q' : Nat→Nat)(hC : CallA P f avs s rav s')(hs : fC q s0 = s)(ha : cJ q avs0 = avs)(hs' : fC q' s' = s1)(hai : da s0 avs0 = true)(hfl : eH rav = true)
  (hk : (ch (aY s0) && ch (iE q (aY s0)) && rV q (aY s0) && bd s0 s0) = true) (hk' : (ch (aY s') && ch (iE q' (aY s')) && rV q' (aY s') && bd s' s') = true) : CallA P f avs0 s0 rav s1:=by
 subst hs; subst ha; subst hs'
 refine ⟨hC.fn,fun w σ φ vs hinv hargs=>?_⟩
 obtain ⟨φ1,h1,hR,hL,hp⟩:=hinv.ren q hk
 refine (hC.run w σ φ1 vs h1 (yK hR hai hargs)).mono ?_
 rintro e w' ⟨v,σ',φ',rfl,hret⟩
 obtain ⟨φ2,h2,hR2,hL2,hp2⟩:=hret.inv.ren q' hk'
 have hM : ∀ b,MOf φ1 (fC q s0) b→MOf φ s0 b:=by
  rintro b ⟨t,e,p,h3,h4,h5⟩
  obtain ⟨j,o,rfl,h6,rfl⟩:=hL t e h3
  rw [(hR _ _ h6).2] at h4
  exact ⟨j,o,p,h6,h4,h5⟩
 refine ⟨v,σ',φ2,rfl,hret.le,fun b hb=>?_,h2,pQ hfl hret.rep,fun i e p hi hpi=>?_,fun t ht=>(hp2 t ht).trans ((hret.pin t ht).trans (hp t ht)),⟨hret.kept.os,hret.kept.tape,hret.kept.output,hret.kept.size,hret.kept.drawn,fun b hb hm=>hret.kept.block b hb fun h=>hm (hM b h)⟩⟩
 ·rcases hret.fresh b hb with h | h | h
  ·exact .inl h
  ·exact .inr (.inl h)
  ·exact .inr (.inr (hM b h))
 ·obtain ⟨j,o,rfl,h6,rfl⟩:=hL2 i e hi
  rw [(hR2 _ _ h6).2] at hpi
  rcases hret.mine _ _ _ h6 hpi with h | h
  ·exact .inl h
  ·exact .inr (hM _ h)
variable {V : Env} {T : Tab} {w0 : World} {σ0 : Sig} {φ0 : Pl} {M : Nat→Prop} {n : Nat} {rd : Option Nat} {mk : List Deferred} {ops : Array Oper} {o : Oper} {rest : List Oper} {fr : List (Nat×AV)} {sto : Sto} {K : St→Prop} {st st0 : St} {acc : List Tr}
theorem tv(i id : Nat){k b : Nat}(hl : look sto i = some (.box [.d .nil]))(hlt : (Nat.blt id 1000000 && (!bn id fr && !aM id sto && !bf sto id)) = true) : Imp c ⟨fr,sto⟩ ⟨fr,(id,.row k b [])::bH i (.box [.own id 0]) sto⟩:=by
 simp only [Bool.and_eq_true,Bool.not_eq_true',Nat.blt_eq] at hlt
 obtain ⟨h1,⟨h2,h3⟩,h4⟩:=hlt
 intro a w σ φ hr
 have hn:=hr.nilRow (id:=id) (k:=k) (b:=b) (by simpa using h1) h2 h3
 have hne : id≠i:=by rintro rfl; simp [bf,hl] at h4
 have hE : Ext (fun _=>False) (bL φ id none) (bL φ id none) ((id,.row k b [])::sto) ((id,.row k b [])::bH i (.box [.own id 0]) sto):=by
  intro j _
  cases hj : look ((id,AObj.row k b [])::bH i (.box [.own id 0]) sto) j with
  | none=>exact .inl rfl
  | some e =>
    refine .inr ?_
    rcases ah hj with ⟨rfl,rfl⟩ | ⟨hne2,hj2⟩
    ·exact ⟨_,aI,rfl,_,rfl,compat.refl _⟩
    ·rw [ci] at hj2
     rcases ah hj2 with ⟨rfl,rfl⟩ | ⟨_,hj3⟩
     ·exact ⟨.box [.d .nil],by rw [aN hne2]; exact hl,rfl,.box [.own id 0],rfl,trivial⟩
     ·exact ⟨_,by rw [aN hne2]; exact hj3,rfl,_,rfl,compat.refl _⟩
 have hold : ∀ {j e},look ((id,AObj.row k b [])::bH i (.box [.own id 0]) sto) j = some e→(j = i∧e = .box [.own id 0])∨look ((id,AObj.row k b [])::sto) j = some e:=by
  intro j e hj
  rcases ah hj with ⟨rfl,rfl⟩ | ⟨hne2,hj2⟩
  ·exact .inr aI
  ·rw [ci] at hj2
   rcases ah hj2 with ⟨rfl,rfl⟩ | ⟨_,hj3⟩
   ·exact .inl ⟨rfl,rfl⟩
   ·exact .inr (by rw [aN hne2]; exact hj3)
 have hi : look ((id,AObj.row k b [])::sto) i = some (.box [.d .nil]):=by rw [aN (fun e=>hne e.symm)]; exact hl
 refine ⟨σ,_,hn.le,hn.fresh,⟨hn.inv.sig,fun j e hj=>?_,fun j j' e e' p p' hj hj' hne2 hp hp'=>?_⟩,fun j e p hj hp=>?_,fun s v hv=>?_,hn.defers,hn.size,hn.fra,hn.pin⟩
 ·rcases hold hj with ⟨rfl,rfl⟩ | hj2
  ·obtain ⟨B,cc,vs,t,h5,h6,h7,h8⟩:=hn.inv.obj _ _ hi
   refine ⟨B,cc,vs,t,h5,h6,?_,h8⟩
   cases vs with
   | nil=>exact h7.elim
   | cons v vs =>
     obtain ⟨h9,h10⟩:=h7
     cases vs with
     | cons _ _=>exact h10.elim
     | nil =>
       replace h9:=RepC.d_inv h9
       cases h9
       exact ⟨.ownNil aI aK,trivial⟩
  ·exact (hn.inv.obj _ _ hj2).ext (X:=fun _=>False) (Sig.le_refl _) hE (fun j hj=>hj.elim) rfl fun _ _ _=>⟨rfl,rfl⟩
 ·have h5 : ∀ {j e},look ((id,AObj.row k b [])::bH i (.box [.own id 0]) sto) j = some e→∃ e0,look ((id,AObj.row k b [])::sto) j = some e0:=by
   intro j e hj
   rcases hold hj with ⟨rfl,rfl⟩ | hj2
   ·exact ⟨_,hi⟩
   ·exact ⟨_,hj2⟩
  obtain ⟨_,h6⟩:=h5 hj
  obtain ⟨_,h7⟩:=h5 hj'
  exact hn.inv.inj _ _ _ _ _ _ h6 h7 hne2 hp hp'
 ·rcases hold hj with ⟨rfl,rfl⟩ | hj2
  ·exact hn.mine _ _ _ hi hp
  ·exact hn.mine _ _ _ hj2 hp
 ·obtain ⟨u,hu,hru⟩:=hn.slot s v hv
  exact ⟨u,hu,hru.ext (Sig.le_refl _) hE fun j hj=>hj.elim⟩
theorem eM{t e : TypeId}{x y : Operand}{id m k k' b b' : Nat}{ik : IntKind}{h : Int}{xs : List (List D)}{z : List D}(ho : o.op = .slice t x none (some y) none)(ht : aR V.T t = some (e,k',b',z))(hx : ev st x = some (.one (.own id m)))(hy : ev st y = some (.one (.d (.int ik h))))
  (hl : look st.sto id = some (.row k b xs)) (hk : Nat.beq k k' = true) (h0 : 0≤h) (hm : h.toNat≤m) (hxs : m≤xs.length) : aQ V st o 0 = some ⟨.one (.own id h.toNat),[],[]⟩:=by
 have e1 : Nat.ble h.toNat xs.length = true:=Nat.ble_eq.mpr (by omega)
 have e2 : Nat.ble h.toNat m = true:=Nat.ble_eq.mpr hm
 have e0 : Nat.ble 0 h.toNat = true:=Nat.ble_eq.mpr (Nat.zero_le _)
 simp only [aQ,cF,bQ,ho,cj,fG,hx,hy,h0,decide_true,cond_true,fH,ht,hl,hk,e0,e1,e2,Bool.and_self,Bool.or_true,Nat.beq_refl]
theorem nJ{t e : TypeId}{x y : Operand}{id m k k' b b' : Nat}{ik : IntKind}{xs : List (List D)}{z : List D}(ho : o.op = .slice t x (some y) none none)(ht : aR V.T t = some (e,k',b',z))(hx : ev st x = some (.one (.own id m)))(hy : ev st y = some (.one (.d (.int ik 0))))
  (hl : look st.sto id = some (.row k b xs)) (hk : Nat.beq k k' = true) (hxs : m≤xs.length) : aQ V st o 0 = some ⟨.one (.own id m),[],[]⟩:=by
 have e1 : Nat.ble m xs.length = true:=Nat.ble_eq.mpr hxs
 have e2 : Nat.ble m m = true:=Nat.ble_eq.mpr (Nat.le_refl _)
 have e0 : Nat.ble 0 m = true:=Nat.ble_eq.mpr (Nat.zero_le _)
 have e4 : (0 : Int)≤0:=Int.le_refl _
 simp only [aQ,cF,bQ,ho,cj,fG,hx,hy,e4,decide_true,cond_true,fH,ht,hl,hk,Int.toNat_zero,e0,e1,e2,Bool.and_self,Bool.or_true,Nat.beq_refl]
theorem pg{t e : TypeId}{x y : Operand}{id m k k' b b' : Nat}{ik : IntKind}{h : Int}{xs : List (List D)}{z : List D}(ho : o.op = .slice t x (some y) none none)(ht : aR V.T t = some (e,k',b',z))(hx : ev st x = some (.one (.own id m)))(hy : ev st y = some (.one (.d (.int ik h))))
  (hl : look st.sto id = some (.row k b xs)) (hk : Nat.beq k k' = true) (h0 : 0 < h) (hm : h.toNat≤m) (hxs : m≤xs.length) : aQ V st o 0 = some ⟨.one (.sub id h.toNat (m - h.toNat)),[],[]⟩:=by
 have e1 : Nat.ble m xs.length = true:=Nat.ble_eq.mpr hxs
 have e2 : Nat.ble h.toNat m = true:=Nat.ble_eq.mpr hm
 have e3 : Nat.beq h.toNat 0 = false:=by
  cases hb : Nat.beq h.toNat 0 with
  | false=>rfl
  | true=>have:=Nat.eq_of_beq_eq_true hb; omega
 have e4 : (0 : Int)≤h:=by omega
 simp only [aQ,cF,bQ,ho,cj,fG,hx,hy,e4,decide_true,cond_true,fH,ht,hl,hk,e1,e2,e3,Bool.and_self,Bool.false_and,cond_false]
theorem d7(hT : aU P T){d : Nat}{t t2 e e2 k b k2 b2 k' b' id m : Nat}{z z2 : List D}{x y : Operand}{v : AV}{xs ys zs : List (List D)}
  (ho : o.op = .call { callee:=.builtin .append,args:=#[x,y],argTypes:=#[t,t2] }) (hg : o.guard = none) (hdst : o.dst = some d) (hd : Nat.blt d n = true) (ht : aR T t = some (e,k,b,z)) (ht2 : aR T t2 = some (e2,k2,b2,z2))
  (hlt : (Nat.blt id 1000000 || Nat.ble 2000000 id) = true) (hx : ev ⟨fr,sto⟩ x = some (.one (.own id m))) (hl : look sto id = some (.row k' b' xs)) (hkb : (Nat.beq k k' && Nat.beq b b') = true) (hy : ev ⟨fr,sto⟩ y = some v) (hs : eI ⟨fr,sto⟩ k v = some ys) (hzs : zs = xs.take m ++ ys)
  (hm : m≤100000000) (hys : ys.length≤100000) (hb : b≤100)
  (h : ac P ⟨w0,σ0,φ0,M,n,rd,mk⟩ ops rest ⟨(d,.one (.own id (m + ys.length)))::lv id fr,bH id (.row k b zs) (dj id sto)⟩ K) : ac P ⟨w0,σ0,φ0,M,n,rd,mk⟩ ops (o::rest) ⟨fr,sto⟩ K:=by
 have h47 : (m + ys.length) * b≤2 ^ 47:=Nat.le_trans (Nat.mul_le_mul (show m + ys.length≤200000000 by omega) hb) (by omega)
 exact dS hT ho hg (by rw [hdst]; exact hd) ht ht2 hlt hx hl hkb hy hs hzs (by omega) h47 (by rw [hdst]; exact h)
theorem qI{d : Nat}{fop : Operand}{args : Array Operand}{ats : Array TypeId}{f : FuncId}{caps : List D}{avs avs' : List AV}{rav : AV}{rsto : Sto}{os : List (Nat×AObj)}(dl : List Nat)
  (ho : o.op = .call { callee:=.value fop,args:=args,argTypes:=ats }) (hg : o.guard = none) (hdst : o.dst = some d) (hd : Nat.blt d c.n = true) (hos : dx sto dl = some os) (hf : evS os ⟨fr,sto⟩ fop = some (.one (.d (.fn f caps))))
  (ha : jZ os ⟨fr,sto⟩ args.toList = some avs) (hD : cq avs = true) (hap : (avs ++ caps.map fun x=>.one (.d x)) = avs') (hC : CallA P f avs' [] rav rsto) (hfl : eH rav = true)
  (k : ao P c ops st0 rest ⟨(d,rav)::fr,sto⟩ (⟨rav,[],dl,[]⟩::acc) K) : ao P c ops st0 (o::rest) ⟨fr,sto⟩ acc K:=by
 subst hap
 exact mz hg (vz dl ho (by rw [hdst]; exact hd) hos hf ha hD hC hfl) (by rw [hdst]; exact k)
theorem AB{bl : Nat}{g : Operand}{ps : Array Nat}{assign body code : Code}{Q : Exit→St→Prop}{st' : St}(hi : Imp c st st')(h : OkR P c bl g ps assign body code st' Q) : OkR P c bl g ps assign body code st Q:=fun a w σ φ hr=>by
 obtain ⟨σ',φ',hr'⟩:=hi a w σ φ hr
 exact h a w σ' φ' hr'
theorem xD{s' : Sto}(h : SubL sto s') : Imp c ⟨fr,sto⟩ ⟨fr,s'⟩:=fun a w σ φ hr=>⟨σ,φ,hr.dropTo fun i e hi=>h.look hi⟩
theorem kq(dl : List Nat){d : Nat}{fop : Operand}{args : Array Operand}{ats : Array TypeId}{f : FuncId}{caps : List D}{avs avs' : List AV}{rav : AV}{rsto : Sto}{os : List (Nat×AObj)}
  (ho : o.op = .call { callee:=.value fop,args:=args,argTypes:=ats }) (hg : o.guard = none) (hdst : o.dst = some d) (hd : Nat.blt d n = true) (hos : dx sto dl = some os) (hf : evS os ⟨fr,sto⟩ fop = some (.one (.d (.fn f caps))))
  (ha : jZ os ⟨fr,sto⟩ args.toList = some avs) (hD : cq avs = true) (hap : (avs ++ caps.map fun x=>.one (.d x)) = avs') (hC : CallA P f avs' [] rav rsto) (hfl : eH rav = true)
  (h : ac P ⟨w0,σ0,φ0,M,n,rd,mk⟩ ops rest ⟨(d,rav)::fr,sto⟩ K) : ac P ⟨w0,σ0,φ0,M,n,rd,mk⟩ ops (o::rest) ⟨fr,sto⟩ K:=by
 subst hap
 obtain ⟨ss,h1,h2⟩:=ii (st:=⟨fr,sto⟩) hos
 exact iK ho hg (by rw [hdst]; exact hd) (bR h1) (by rw [h2]; exact hf) (by rw [lO h2]; exact ha) hD hC hfl (by rw [hdst]; exact h)
end Go.Abs
namespace Go.Abs
open Go
variable {P : Program} {c : Ctx} {T : Tab}
theorem gG(hT : aU P T){ops : Array Oper}{o : Oper}{rest : List Oper}{st : St}{K : St→Prop}{op : BinOp}{t ty : TypeId}{x y : Operand}{e : Bool}{k b : Nat}{xs : List (List D)}
  (ho : o.op = .binOp op t x y ty) (hop : ij op = some e) (hg : o.guard = none) (hd : aP c.n o.dst = true) (ht : (kr T t && nO (ev st y)) = true) (hx : ev st x = some (.one (.d (.sl k b xs))))
  (h : ∀ r : Bool,(r = true→xs = [])→ac P c ops rest ⟨bj o.dst (.one (.d (.bool (r == e)))) st.fr,st.sto⟩ K) : ac P c ops (o::rest) st K :=
 ba hg fun a w σ φ hr=>by
  rw [Bool.and_eq_true] at ht
  obtain ⟨el,hu⟩:=rG hT ht.1
  have hr1 : ∃ A n cap,a.eval x = .slice A n cap∧(A.isNone = true→xs = []):=by
   have h1:=RepC.d_inv (aC hr hx)
   generalize a.eval x = u at h1
   cases h1 with
   | sl vs hc h48 hb hk hA hh =>
     refine ⟨_,_,_,rfl,fun hn=>?_⟩
     cases xs with
     | nil=>rfl
     | cons z zs =>
       obtain ⟨B,o,cells,rfl,_⟩:=hA (by simp)
       simp at hn
  obtain ⟨A,n,cap,hx,hA⟩:=hr1
  have hy : a.eval y = .slice none 0 0:=by
   have h2:=ht.2
   unfold nO at h2
   split at h2
   ·rename_i hy
    have h1:=RepC.d_inv (aC hr hy)
    generalize a.eval y = u at h1
    cases h1; rfl
   ·cases h2
  refine ⟨.bool (A.isNone == e),w,_,σ,φ,?_,hr.put (v:=.one (.d (.bool (A.isNone == e)))) hd (RepC.d .bool),h _ hA⟩
  cases op <;> simp only [ij,Option.some.injEq,reduceCtorEq] at hop <;> subst hop
  ·simp [execOp,ho,hx,hy,bF,Lib.run_eql_slice_nil _ _ _ _ _ _ _ _ hu]
  ·simp [execOp,ho,hx,hy,bF,run_neq_slice_nil_any _ _ _ _ _ _ _ _ hu]
variable {w0 : World} {σ0 : Sig} {φ0 : Pl} {fr : List (Nat×AV)} {sto : Sto}
theorem sQ(i j0 id : Nat){k b : Nat}{cs : List AC}(hl : look sto i = some (.box cs))(hc : cs[j0]? = some (.d .nil))(hlt : (Nat.blt id 1000000 && (!bn id fr && !aM id sto && !bf sto id)) = true) : Imp c ⟨fr,sto⟩ ⟨fr,(id,.row k b [])::bH i (.box (cs.set j0 (.own id 0))) sto⟩:=by
 simp only [Bool.and_eq_true,Bool.not_eq_true',Nat.blt_eq] at hlt
 obtain ⟨h1,⟨h2,h3⟩,h4⟩:=hlt
 intro a w σ φ hr
 have hn:=hr.nilRow (id:=id) (k:=k) (b:=b) (by simpa using h1) h2 h3
 have hne : id≠i:=by rintro rfl; simp [bf,hl] at h4
 have hE : Ext (fun _=>False) (bL φ id none) (bL φ id none) ((id,.row k b [])::sto) ((id,.row k b [])::bH i (.box (cs.set j0 (.own id 0))) sto):=by
  intro j _
  cases hj : look ((id,AObj.row k b [])::bH i (.box (cs.set j0 (.own id 0))) sto) j with
  | none=>exact .inl rfl
  | some e =>
    refine .inr ?_
    rcases ah hj with ⟨rfl,rfl⟩ | ⟨hne2,hj2⟩
    ·exact ⟨_,aI,rfl,_,rfl,compat.refl _⟩
    ·rw [ci] at hj2
     rcases ah hj2 with ⟨rfl,rfl⟩ | ⟨_,hj3⟩
     ·exact ⟨.box cs,by rw [aN hne2]; exact hl,rfl,.box (cs.set j0 (.own id 0)),rfl,trivial⟩
     ·exact ⟨_,by rw [aN hne2]; exact hj3,rfl,_,rfl,compat.refl _⟩
 have hold : ∀ {j e},look ((id,AObj.row k b [])::bH i (.box (cs.set j0 (.own id 0))) sto) j = some e→(j = i∧e = .box (cs.set j0 (.own id 0)))∨look ((id,AObj.row k b [])::sto) j = some e:=by
  intro j e hj
  rcases ah hj with ⟨rfl,rfl⟩ | ⟨hne2,hj2⟩
  ·exact .inr aI
  ·rw [ci] at hj2
   rcases ah hj2 with ⟨rfl,rfl⟩ | ⟨_,hj3⟩
   ·exact .inl ⟨rfl,rfl⟩
   ·exact .inr (by rw [aN hne2]; exact hj3)
 have hi : look ((id,AObj.row k b [])::sto) i = some (.box cs):=by rw [aN (fun e=>hne e.symm)]; exact hl
 refine ⟨σ,_,hn.le,hn.fresh,⟨hn.inv.sig,fun j e hj=>?_,fun j j' e e' p p' hj hj' hne2 hp hp'=>?_⟩,fun j e p hj hp=>?_,fun s v hv=>?_,hn.defers,hn.size,hn.fra,hn.pin⟩
 ·rcases hold hj with ⟨rfl,rfl⟩ | hj2
  ·obtain ⟨B,cc,vs,t,h5,h6,h7,h8⟩:=hn.inv.obj _ _ hi
   refine ⟨B,cc,vs,t,h5,h6,All2.of_get (by rw [List.length_set]; exact h7.length) fun m x u hx hu=>?_,h8⟩
   by_cases hm : j0 = m
   ·subst hm
    have hlt : j0 < cs.length:=(List.getElem?_eq_some_iff.1 hc).1
    rw [List.getElem?_set_self hlt] at hx
    cases hx
    obtain ⟨u',hu',hr9⟩:=h7.get hc
    rw [hu] at hu'; cases hu'
    replace hr9:=RepC.d_inv hr9
    cases hr9
    exact .ownNil aI aK
   ·rw [List.getElem?_set_ne hm] at hx
    obtain ⟨u',hu',hr9⟩:=h7.get hx
    rw [hu] at hu'; cases hu'
    exact hr9.ext (Sig.le_refl _) hE fun j hj=>hj.elim
  ·exact (hn.inv.obj _ _ hj2).ext (X:=fun _=>False) (Sig.le_refl _) hE (fun j hj=>hj.elim) rfl fun _ _ _=>⟨rfl,rfl⟩
 ·have h5 : ∀ {j e},look ((id,AObj.row k b [])::bH i (.box (cs.set j0 (.own id 0))) sto) j = some e→∃ e0,look ((id,AObj.row k b [])::sto) j = some e0:=by
   intro j e hj
   rcases hold hj with ⟨rfl,rfl⟩ | hj2
   ·exact ⟨_,hi⟩
   ·exact ⟨_,hj2⟩
  obtain ⟨_,h6⟩:=h5 hj
  obtain ⟨_,h7⟩:=h5 hj'
  exact hn.inv.inj _ _ _ _ _ _ h6 h7 hne2 hp hp'
 ·rcases hold hj with ⟨rfl,rfl⟩ | hj2
  ·exact hn.mine _ _ _ hi hp
  ·exact hn.mine _ _ _ hj2 hp
 ·obtain ⟨u,hu,hru⟩:=hn.slot s v hv
  exact ⟨u,hu,hru.ext (Sig.le_refl _) hE fun j hj=>hj.elim⟩
theorem lW{V : Env}{st : St}{o : Oper}{id i n k b k' b' : Nat}{t t2 : TypeId}{x y : Operand}{v : AV}{xs ys : List (List D)}{e : TypeId}{z : List D}{q : TypeId×Nat×Nat×List D}
  (ho : o.op = .call { callee:=.builtin .append,args:=⟨[x,y]⟩,argTypes:=⟨[t,t2]⟩ }) (ht : aR V.T t = some (e,k,b,z)) (ht2 : aR V.T t2 = some q) (hx : ev st x = some (.one (.own i n))) (hl : look st.sto i = some (.row k' b' xs))
  (hkb : (Nat.beq k k' && Nat.beq b b') = true) (hy : ev st y = some v) (hs : eI st k v = some ys) (h1 : n + ys.length≤1000000000) (h2 : (n + ys.length) * b≤100000000000) :
  aQ V st o id = some ⟨.one (.own id (n + ys.length)),[(id,some (.row k b (xs.take n ++ ys))),(i,none)],[id]⟩:=by
 obtain ⟨q1,q2,q3,q4⟩:=q
 have e1 : Nat.ble (n + ys.length) 1000000000 = true:=by simpa using h1
 have e2 : Nat.ble ((n + ys.length) * b) 100000000000 = true:=by simpa using h2
 simp only [aQ,cF,bQ,ho,cj,sa,hx,hy,ht,ht2,hl,hs,hkb,e1,e2,cond_true,Bool.and_self,lN,List.map_cons,List.map_nil]
end Go.Abs
namespace Go.Proofs.YtpejdgkaapnekaaGreat
open Go Go.Abs
attribute [local irreducible] ac OkC ao ax ap aJ
set_option maxRecDepth 10000
theorem Ms(l : List Int) : CallA Tryz.prog 129 [.one (.d (aL l))] [] (.one (.d (aL l))) []:=by
 refine enter ae Tryz.func129 rfl (by decide +kernel) rfl fun hok w0 σ0 φ0 M=>?_
 have h1:=hok.1.sl; clear hok; simp only [List.length_map] at h1
 repeat' (first|(refine h1H ?_; (refine h6H ?_; refine gG ae J J J J J J (fun r hr=>?_)))|(refine h1H ?_; (refine h0H ?_; refine dS ae J J J J J (id:=0) J J J J J J J (by simp only [List.length_map,Nat.zero_add]; omega) (by simp only [List.length_map,Nat.zero_add]; omega) ?_))|(refine h4H ?_; first|refine bu (bR (dl:=[0]) J) (cv ?_)|refine bu (j6 (s:=2) (k:=1) (b:=8) J) (cv ?_))|refine wG ?_|(refine h4H ?_; refine ag J (fun h=>?_) (fun h=>?_)))
 ·have e:=hr (by simpa using h)
  simp only [aL,e]
 ·simp only [dc,aL,List.length_map,Nat.zero_add,List.take_nil,List.nil_append]
  exact congrArg (fun x=>AV.one (AC.d (D.sl _ _ x))) (List.take_of_length_le (by simp))
theorem Mt(l : List Val) : CallA Tryz.prog 144 [.one (.d (az l))] [] (.one (.d (az l))) []:=by
 refine enter ae Tryz.func144 rfl (by decide +kernel) rfl fun hok w0 σ0 φ0 M=>?_
 have h1:=hok.1.sl; clear hok; simp only [List.length_map] at h1
 repeat' (first|(refine h1H ?_; (refine h6H ?_; refine gG ae J J J J J J (fun r hr=>?_)))|(refine h1H ?_; (refine h0H ?_; refine dS ae J J J J J (id:=0) J J J J J J J (by simp only [List.length_map,Nat.zero_add]; omega) (by simp only [List.length_map,Nat.zero_add]; omega) ?_))|(refine h4H ?_; first|refine bu (bR (dl:=[0]) J) (cv ?_)|refine bu (j6 (s:=2) (k:=4) (b:=40) J) (cv ?_))|refine wG ?_|(refine h4H ?_; refine ag J (fun h=>?_) (fun h=>?_)))
 ·have e:=hr (by simpa using h)
  simp only [az,e]
 ·simp only [dc,az,List.length_map,Nat.zero_add,List.take_nil,List.nil_append]
  exact congrArg (fun x=>AV.one (AC.d (D.sl _ _ x))) (List.take_of_length_le (by simp))
theorem c97(l : List Dim) : CallA Tryz.prog 97 [.one (.d (aH l))] [] (.one (.d (aH l))) []:=by
 refine enter ae Tryz.func97 rfl (by decide +kernel) rfl fun hok w0 σ0 φ0 M=>?_
 have h1:=hok.1.sl; clear hok; simp only [List.length_map] at h1
 repeat' (first|(refine h1H ?_; (refine h6H ?_; refine gG ae J J J J J J (fun r hr=>?_)))|(refine h1H ?_; (refine h0H ?_; refine dS ae J J J J J (id:=0) J J J J J J J (by simp only [List.length_map,Nat.zero_add]; omega) (by simp only [List.length_map,Nat.zero_add]; omega) ?_))|(refine h4H ?_; first|refine bu (bR (dl:=[0]) J) (cv ?_)|refine bu (j6 (s:=2) (k:=3) (b:=32) J) (cv ?_))|refine wG ?_|(refine h4H ?_; refine ag J (fun h=>?_) (fun h=>?_)))
 ·have e:=hr (by simpa using h)
  simp only [aH,e]
 ·simp only [dc,aH,List.length_map,Nat.zero_add,List.take_nil,List.nil_append]
  exact congrArg (fun x=>AV.one (AC.d (D.sl _ _ x))) (List.take_of_length_le (by simp))
theorem Mr(l : List Attr) : CallA Tryz.prog 145 [.one (.d (aF l))] [] (.one (.d (aF l))) []:=by
 refine enter ae Tryz.func145 rfl (by decide +kernel) rfl fun hok w0 σ0 φ0 M=>?_
 have h1:=hok.1.sl; clear hok; simp only [List.length_map] at h1
 repeat' (first|(refine h1H ?_; (refine h6H ?_; refine gG ae J J J J J J (fun r hr=>?_)))|(refine h1H ?_; (refine h0H ?_; refine dS ae J J J J J (id:=0) J J J J J J J (by simp only [List.length_map,Nat.zero_add]; omega) (by simp only [List.length_map,Nat.zero_add]; omega) ?_))|(refine h4H ?_; first|refine bu (bR (dl:=[0]) J) (cv ?_)|refine bu (j6 (s:=2) (k:=2) (b:=24) J) (cv ?_))|refine wG ?_|(refine h4H ?_; refine ag J (fun h=>?_) (fun h=>?_)))
 ·have e:=hr (by simpa using h)
  simp only [aF,e]
 ·simp only [dc,aF,List.length_map,Nat.zero_add,List.take_nil,List.nil_append]
  exact congrArg (fun x=>AV.one (AC.d (D.sl _ _ x))) (List.take_of_length_le (by simp))
end Go.Proofs.YtpejdgkaapnekaaGreat
namespace Go.Abs
open Go Go.Shelf Go.RowKit Go.Lib Go.Sort Go.Proofs
variable {P : Program} {σ : Sig} {φ : Pl} {w : World}
theorem lQ{σ : Sig}{φ : Pl}{sto : Sto} : ∀ {ds : List D} {vs : List Value},All2 (Rep σ) ds vs→All2 (RepC σ φ sto) (ds.map AC.d) vs
 | [],[],_=>trivial
 | _::_,_::_,h=>⟨.d h.1,lQ h.2⟩
 | [],_::_,h=>h.elim
 | _::_,[],h=>h.elim
theorem pk : ∀ {ds : List D} {vs : List Value},All2 (Rep σ) ds vs→∀ v∈vs,v.oneCell = true
 | [],[],_,v,hv=>by simp at hv
 | _::_,_::_,h,v,hv=>by
   rcases List.mem_cons.1 hv with rfl | hv
   ·exact h.1.oneCell
   ·exact pk h.2 v hv
 | [],_::_,h,_,_=>h.elim
 | _::_,[],h,_,_=>h.elim
theorem DD{M : Nat→Prop}{w w' : World}(h : Kept M w w')(hM : ∀ b,¬ M b) : ∃ q os,w' = grow (w.drewN q) os:=by
 refine ⟨w'.drawn - w.drawn,w'.heap.extract w.heap.size w'.heap.size,?_⟩
 have hh : w'.heap = w.heap ++ w'.heap.extract w.heap.size w'.heap.size:=by
  refine Array.ext_getElem? fun i=>?_
  by_cases hi : i < w.heap.size
  ·rw [Array.getElem?_append_left hi]; exact h.block i hi (hM i)
  ·rw [Array.getElem?_append_right (by omega),Array.getElem?_extract]
   have:=h.size
   by_cases hi2 : i < w'.heap.size
   ·rw [if_pos (by omega)]; congr 1; omega
   ·rw [if_neg (by omega)]; exact Array.getElem?_eq_none (by omega)
 have h1:=h.os; have h2:=h.tape; have h3:=h.output; have h4:=h.drawn
 cases w; cases w'
 simp only [grow,World.drewN] at *
 subst h1 h2 h3
 congr 1
 omega
theorem q8{enc : Value→Value}{w : World}{B off b : Nat}{d : Array Value}(h : b≠B) : (putRow enc w B off d).heap[b]? = w.heap[b]?:=by
 simp only [putRow,mapBlock,Array.getElem?_modify,if_neg (Ne.symm h)]
theorem jD{α : Type}[Inhabited α]{enc : α→List Value}{k : Nat}{w : World}{B off m b : Nat}{d : Array α}{os : Array Obj}(hb : b < w.heap.size)(h : b≠B) :
  (sortWorldK enc k w B off m d os).heap[b]? = w.heap[b]?:=by
 unfold sortWorldK grow putRowK
 show ((putRow id (Sort.ahead w m) B off (flatK enc k d)).heap ++ os)[b]? = _
 rw [Array.getElem?_append_left (by rw [Go.Sort.size_putRow]; exact hb),q8 h]
 rfl
theorem wH{α : Type}[Inhabited α]{enc : α→List Value}{k : Nat}{w : World}{B off m : Nat}{d : Array α}{os : Array Obj}{arr : Array Value}{t : TypeId}{fr : Nat×Nat}(h : w.heap[B]? = some (.cells arr t fr)) :
  (sortWorldK enc k w B off m d os).heap[B]? = some (.cells (putCells id off (flatK enc k d) arr) t fr):=by
 unfold sortWorldK grow putRowK
 show ((putRow id (Sort.ahead w m) B off (flatK enc k d)).heap ++ os)[B]? = _
 have hB:=(Array.getElem?_eq_some_iff.1 h).1
 rw [Array.getElem?_append_left (by rw [Go.Sort.size_putRow]; exact hB)]
 simp only [putRow,mapBlock,Array.getElem?_modify,if_true]
 show (w.heap[B]?).map _ = _
 rw [h]; rfl
theorem DE{α : Type}[Inhabited α]{enc : α→List Value}{k : Nat}{w : World}{B off m : Nat}{d : Array α}{os : Array Obj} :
  w.heap.size≤(sortWorldK enc k w B off m d os).heap.size:=by
 unfold sortWorldK grow putRowK
 show w.heap.size≤((putRow id (Sort.ahead w m) B off (flatK enc k d)).heap ++ os).size
 rw [Array.size_append,Go.Sort.size_putRow]
 exact Nat.le_add_right _ _
section
variable {C : Type}
abbrev El(σ : Sig)(k : Nat)(encC : C→List D):={ p : C×List Value // p.2.length = k∧All2 (Rep σ) (encC p.1) p.2 }
set_option maxHeartbeats 1000000 in
theorem Bx{ρ : Ren}(L : SlLaysF0.n6 P ρ)(k b : Nat)(hk0 : 0 < k)(aE : ∀ w,(isAgg (ρ.t 24)).run P w = .ok true w)(zE : ∀ w,(Go.sizeOf (ρ.t 24)).run P w = .ok k w)
  (encC : C→List D) (hk : ∀ x,(encC x).length = k) (cf : C→C→Int) (h1 : ∀ x,¬ cf x x < 0) (h2 : ∀ x y z,cf x y < 0→cf y z < 0→cf x z < 0) (h3 : ∀ x y z,¬ cf x y < 0→¬ cf y z < 0→¬ cf x z < 0)
  (g : Nat) (hg : ∀ x y,CallA P g [.agg ((encC x).map .d),.agg ((encC y).map .d)] [] (.one (.d (.int .i64 (cf x y)))) [])
  (eg : ∀ args w,(callFunc g args).run P w = .ok (.enter g args) w)
  (hfn : ∃ fn, P.funcs[ρ.f 6]? = some fn ∧ (fn.name == "runtime.NumGoroutine") = false ∧ fn.body.isSome = true)
  (id : Nat) (cs ss : List C) (hu : ∀ l : List C,l.Perm cs→l.Pairwise (fun x y=>¬ cf y x < 0)→l = ss) :
  CallA P (ρ.f 6) [.one (.own id cs.length),.one (.d (.fn g []))] [(id,.row k b (cs.map encC))] (.tup []) [(id,.row k b (ss.map encC))]:=by
 refine ⟨hfn,fun w σ φ vs hI hA=>?_⟩
 match vs,hA with
 | [v0,v1],hA =>
 obtain ⟨hv0,hv1,_⟩:=hA
 have ev1 : v1 = .func (.func g) #[] #[]:=by
  have hv1 : RepC σ φ _ (.d (.fn g [])) v1:=hv1
  cases hv1.d_inv with
  | fn ws hl _ =>
    have : ws = []:=List.eq_nil_of_length_eq_zero (by simpa using hl)
    subst this; rfl
 subst ev1
 have hlook : look [(id,AObj.row k b (cs.map encC))] id = some (.row k b (cs.map encC)):=by simp [look]
 have hobj:=hI.obj id _ hlook
 by_cases hn : cs = []
 ·subst hn
  have hss : ss = []:=(hu [] (List.Perm.refl _) .nil).symm
  subst hss
  have ev0 : ∃ p c,v0 = .slice p 0 c:=by
   have hv0 : RepC σ φ _ (.own id 0) v0:=hv0
   cases hv0 with
   | ownNil=>exact ⟨_,_,rfl⟩
   | own=>exact ⟨_,_,rfl⟩
   | dead hx=>simp [bx,bf,look] at hx
  obtain ⟨p,c,rfl⟩:=ev0
  refine (AnyF.slices_SortFunc_none L p c _ w).mono ?_
  rintro e w' ⟨rfl,rfl⟩
  exact ⟨_,σ,φ,rfl,Sig.le_refl _,fun b hb=>.inl hb,hI,⟨[],rfl,trivial⟩,fun i e p h1 h2=>.inr ⟨i,e,p,h1,h2,rfl⟩,fun _ _=>rfl,⟨rfl,rfl,rfl,Nat.le_refl _,Nat.le_refl _,fun _ _ _=>rfl⟩⟩
 ·have hn0 : 0 < cs.length:=List.length_pos_iff.2 hn
  have hv0 : RepC σ φ _ (.own id cs.length) v0:=hv0
  obtain ⟨B,cap0,rfl,hφ⟩ : ∃ B cap,v0 = .slice (some ⟨B,0,none⟩) cs.length cap∧φ id = some (B,cap):=by
   revert hv0; generalize cs.length = m at hn0 ⊢; intro hv0
   cases hv0 with
   | ownNil=>omega
   | own _ _ hp=>exact ⟨_,_,rfl,hp⟩
   | dead hx=>simp [bx,bf,look] at hx
  rcases hobj with ⟨he,_⟩ | ⟨B',cap,arr,t,vf,hφ',hheap,hsz,hle,h48,hb47,hlen,hcell,hrep,hσ⟩
  ·simp at he; exact absurd he hn
  rw [hφ] at hφ'; cases hφ'
  simp only [List.length_map] at hle h48 hb47 hcell
  have hB : B < w.heap.size:=(Array.getElem?_eq_some_iff.1 hheap).1
  have hel : ∀ i (hi : i < cs.length),((List.range k).map (vf i)).length = k∧All2 (Rep σ) (encC cs[i]) ((List.range k).map (vf i)):=by
   intro i hi
   refine ⟨by simp,All2.of_get (by simp [hk]) fun j x v hx hv=>?_⟩
   have hj : j < k:=by have:=(List.getElem?_eq_some_iff.1 hx).1; rwa [hk] at this
   have hv' : v = vf i j:=by
    rw [List.getElem?_map,List.getElem?_range hj] at hv; simpa using hv.symm
   subst hv'
   exact hrep i j _ _ (by rw [List.getElem?_map,List.getElem?_eq_getElem hi]; rfl) hx
  let mk : (i : Nat)→i < cs.length→El σ k encC:=fun i hi=>⟨(cs[i],(List.range k).map (vf i)),hel i hi⟩
  haveI : Inhabited (El σ k encC):=⟨mk 0 hn0⟩
  let d : Array (El σ k encC):=Array.ofFn (n:=cs.length) fun i=>mk i.1 i.2
  have hds : d.size = cs.length:=by simp [d]
  have hdg : ∀ i (hi : i < cs.length),d[i]! = mk i hi:=by
   intro i hi; rw [getElem!_pos d i (by omega)]; simp [d]
  have hdl : d.toList.map (fun x=>x.1.1) = cs:=by
   refine List.ext_getElem (by simp [hds]) fun i h4 h5=>?_
   simp [d,mk]
  let enc : El σ k encC→List Value:=fun x=>x.1.2
  let cf' : El σ k encC→El σ k encC→Int:=fun x y=>cf x.1.1 y.1.1
  have hO : SWO (ltOf cf') :=
   ⟨fun x=>by simpa [ltOf,cf'] using h1 x.1.1,fun x y z=>by simpa [ltOf,cf'] using h2 x.1.1 y.1.1 z.1.1,fun x y z=>by simpa [ltOf,cf'] using h3 x.1.1 y.1.1 z.1.1⟩
  have hHK : HoldsK enc k w B 0 d:=by
   intro j hj
   rw [size_flatK,hds] at hj
   have hj1 : j / k < cs.length:=Nat.div_lt_of_lt_mul (by rwa [Nat.mul_comm] at hj)
   have hj2 : j % k < k:=Nat.mod_lt _ hk0
   have hc:=hcell (j / k) (j % k) hj1 hj2
   rw [Nat.div_add_mod' j k] at hc
   rw [get_flatK enc k d j (by rw [hds]; exact hj),hdg _ hj1]
   have e : (enc (mk (j / k) hj1))[j % k]! = vf (j / k) (j % k):=by
    rw [getElem!_pos _ _ (by simp [enc,mk]; exact hj2)]; simp [enc,mk]
   rw [e]
   refine ⟨?_,?_⟩
   ·simp only [World.cell?,hheap,Nat.zero_add]
    simpa using hc
   ·simp [World.frozen?,hheap]
  have hsig : ∀ (m : Nat) (os : Array Obj) (dk : Array (El σ k encC)),HInv σ φ [] (sortWorldK enc k w B 0 m dk os):=by
   intro m os dk
   refine ⟨fun b cs' hb=>?_,fun i e h=>by simp [look] at h,fun i i' e e' p p' h=>by simp [look] at h⟩
   obtain ⟨t',f',hh⟩:=hI.sig b cs' hb
   refine ⟨t',f',?_⟩
   rw [jD (Array.getElem?_eq_some_iff.1 hh).1 (by rintro rfl; rw [hσ] at hb; cases hb)]
   exact hh
  have hcmp : CmpLays P g #[] enc k cf' B 0 d.size w:=by
   intro m os dk _ x y
   have hr:=(hg x.1.1 y.1.1).run (sortWorldK enc k w B 0 m dk os) σ φ [.agg (enc x).toArray,.agg (enc y).toArray] (hsig m os dk) ⟨⟨_,rfl,lQ x.2.2⟩,⟨_,rfl,lQ y.2.2⟩,trivial⟩
   refine Calls.mono hr ?_
   rintro e w' ⟨v,σ',φ',rfl,hret⟩
   obtain ⟨q,os',hq⟩:=DD hret.kept (fun b hb=>by obtain ⟨i,e,p,h,_⟩:=hb; simp [look] at h)
   have hv : v = .int .i64 (cf x.1.1 y.1.1):=by
    have h : RepC σ' φ' [] (.d (.int .i64 (cf x.1.1 y.1.1))) v:=hret.rep
    cases h.d_inv; rfl
   exact ⟨by rw [hv],q,os',hq⟩
  have hS:=AnyQ.slices_SortFunc L k aE zE enc (fun x=>x.2.1) (fun x v hv=>n9 (pk x.2.2 v hv)) cf' hO g #[] B 0 cap0 d w eg hcmp hHK hB (by omega)
  rw [hds] at hS
  refine Calls.mono hS ?_
  rintro e w' ⟨rfl,d',n',os,hperm,hsorted,rfl⟩
  have hd's : d'.size = cs.length:=hperm.1.trans hds
  have hpl : d'.toList.Perm d.toList:=by
   have h:=hperm.2.2
   have e1 : d'.extract 0 cs.length = d':=by rw [← hd's]; simp
   have e2 : d.extract 0 cs.length = d:=by rw [← hds]; simp
   rwa [e1,e2] at h
  have hl : d'.toList.map (fun x=>x.1.1) = ss:=by
   refine hu _ (hdl ▸ hpl.map _) ?_
   rw [List.pairwise_map,List.pairwise_iff_getElem]
   intro i j hi hj hij
   have h:=hsorted i j (Nat.zero_le _) hij (by simpa [hd's] using hj)
   simp only [Array.length_toList] at hi hj
   rw [getElem!_pos d' i hi,getElem!_pos d' j hj] at h
   simpa [ltOf,cf'] using h
  have hssl : ss.length = cs.length:=by rw [← hl]; simp [hd's]
  have hget : ∀ i (hi : i < cs.length) (x : C),ss[i]? = some x→d'[i]!.1.1 = x:=by
   intro i hi x hx
   rw [← hl,List.getElem?_map,Array.getElem?_toList,Array.getElem?_eq_getElem (by omega)] at hx
   rw [getElem!_pos d' i (by omega)]
   simpa using hx
  have hmine : MOf φ [(id,AObj.row k b (cs.map encC))] B:=⟨id,_,_,hlook,hφ,rfl⟩
  refine ⟨_,σ,φ,rfl,Sig.le_refl _,fun b hb=>.inl hb,⟨fun b cs' hb=>?_,fun i e hi=>?_,fun i i' e e' p p' hi hi' hne=>?_⟩,⟨[],rfl,trivial⟩,fun i e p hi hp=>.inr ?_,fun _ _=>rfl,⟨rfl,rfl,rfl,DE,Nat.le_add_right _ _,fun b hb hM=>jD hb (by rintro rfl; exact hM hmine)⟩⟩
  ·obtain ⟨t',f',hh⟩:=hI.sig b cs' hb
   refine ⟨t',f',?_⟩
   rw [jD (Array.getElem?_eq_some_iff.1 hh).1 (by rintro rfl; rw [hσ] at hb; cases hb)]
   exact hh
  ·rcases ah hi with ⟨rfl,rfl⟩ | ⟨_,hi⟩
   ·refine .inr ⟨B,cap0,putCells _root_.id 0 (flatK enc k d') arr,t,fun i j=>(enc d'[i]!)[j]!,hφ,wH hheap,by simp [putCells,hsz],by simpa [hssl] using hle,by simpa [hssl] using h48,by simpa [hssl] using hb47,fun x hx=>?_,fun i j hi hj=>?_,fun i j x dd hx hdd=>?_,hσ⟩
    ·obtain ⟨c,_,rfl⟩:=List.mem_map.1 hx; exact hk c
    ·simp only [List.length_map,hssl] at hi
     have hlt : i * k + j < cs.length * k:=by
      have:=Nat.mul_le_mul_right k (show i + 1≤cs.length from hi); rw [Nat.add_mul,Nat.one_mul] at this; omega
     have hc:=hcell i j hi hj
     simp only [putCells,Array.getElem?_mapIdx,hc,Option.map_some,size_flatK,hd's,Nat.zero_le,true_and,Nat.zero_add,hlt,if_true,Nat.sub_zero]
     rw [get_flatK enc k d' _ (by rw [hd's]; exact hlt)]
     have e1 : (i * k + j) / k = i:=(blk_iff k i _ hk0).1 ⟨by omega,by omega⟩
     have e2 : (i * k + j) % k = j:=by rw [Nat.mod_eq_sub_div_mul,e1]; omega
     rw [e1,e2]; rfl
    ·rw [List.getElem?_map] at hx
     cases hs : ss[i]? with
     | none=>rw [hs] at hx; simp at hx
     | some c =>
       rw [hs] at hx; simp at hx; subst hx
       have hi : i < cs.length:=by rw [← hssl]; exact (List.getElem?_eq_some_iff.1 hs).1
       have e1:=hget i hi c hs
       have ha:=(d'[i]!).2.2
       rw [e1] at ha
       obtain ⟨v,hv,hr⟩:=ha.get hdd
       have : (enc d'[i]!)[j]! = v:=by
        have hv2:=(List.getElem?_eq_some_iff.1 hv)
        exact (getElem!_pos (enc d'[i]!) j hv2.1).trans hv2.2
       show Rep σ dd ((enc d'[i]!)[j]!)
       rw [this]; exact hr
   ·simp [look] at hi
  ·rcases ah hi with ⟨rfl,_⟩ | ⟨_,hi⟩
   ·rcases ah hi' with ⟨rfl,_⟩ | ⟨_,hi'⟩
    ·exact absurd rfl hne
    ·simp [look] at hi'
   ·simp [look] at hi
  ·rcases ah hi with ⟨rfl,_⟩ | ⟨_,hi⟩
   ·rw [hφ] at hp; cases hp; exact hmine
   ·simp [look] at hi
end
end Go.Abs
namespace Go.Proofs.YtpejdgkaapnekaaGreat
open Go Go.Proofs Go.Shelf
def DZ : Go.Shelf.Ren:=⟨fun | 6=>181 | 15=>219 | 14=>231 | 28=>261 | 29=>262 | 20=>271 | 21=>272 | 22=>273 | 23=>274 | 24=>275 | 25=>276 | 26=>277 | 27=>278 | 46=>338 | 47=>295 | 48=>296 | 49=>339 | 50=>340 | 57=>368 | n=>n,fun | 22=>24 | 24=>56 | 25=>172 | 3=>3 | 39=>192 | 0=>0 | 53=>251 | 55=>253 | 4=>4 | 46=>244 | 45=>243 | 50=>119 | 5=>5 | 9=>9 | 66=>278 | 70=>282 | 76=>302 | 77=>303 | n=>n,fun | n=>n⟩
theorem KV : Go.Proofs.SlLaysF0.n6 Tryz.prog DZ:={
 mixed:=by kernel_rfl
 f6:=⟨Tryz.f181.name,by decide,Tryz.func181.trans (congrArg some (by kernel_rfl))⟩
 f14:=⟨Tryz.f231.name,by decide,Tryz.func231.trans (congrArg some (by kernel_rfl))⟩
 f15:=Tryz.func219.trans (congrArg some (by kernel_rfl))
 f20:=⟨Tryz.f271.name,by decide,Tryz.func271.trans (congrArg some (by kernel_rfl))⟩
 f21:=⟨Tryz.f272.name,by decide,Tryz.func272.trans (congrArg some (by kernel_rfl))⟩
 f22:=⟨Tryz.f273.name,by decide,Tryz.func273.trans (congrArg some (by kernel_rfl))⟩
 f23:=⟨Tryz.f274.name,by decide,Tryz.func274.trans (congrArg some (by kernel_rfl))⟩
 f24:=⟨Tryz.f275.name,by decide,Tryz.func275.trans (congrArg some (by kernel_rfl))⟩
 f25:=⟨Tryz.f276.name,by decide,Tryz.func276.trans (congrArg some (by kernel_rfl))⟩
 f26:=⟨Tryz.f277.name,by decide,Tryz.func277.trans (congrArg some (by kernel_rfl))⟩
 f27:=⟨Tryz.f278.name,by decide,Tryz.func278.trans (congrArg some (by kernel_rfl))⟩
 f28:=Tryz.func261.trans (congrArg some (by kernel_rfl))
 f29:=Tryz.func262.trans (congrArg some (by kernel_rfl))
 f46:=⟨Tryz.f338.name,by decide,Tryz.func338.trans (congrArg some (by kernel_rfl))⟩
 f47:=Tryz.func295.trans (congrArg some (by kernel_rfl))
 f48:=Tryz.func296.trans (congrArg some (by kernel_rfl))
 f49:=⟨Tryz.f339.name,by decide,Tryz.func339.trans (congrArg some (by kernel_rfl))⟩
 f50:=⟨Tryz.f340.name,by decide,Tryz.func340.trans (congrArg some (by kernel_rfl))⟩
 f57:=⟨Tryz.f368.name,by decide,Tryz.func368.trans (congrArg some (by kernel_rfl))⟩
 t0:=Tryz.underlying0
 a0:=Tryz.isAgg0
 z0:=Tryz.sizeOf0
 v0:=Tryz.zeroValue0
 t3:=Tryz.underlying3
 a3:=Tryz.isAgg3
 z3:=Tryz.sizeOf3
 v3:=Tryz.zeroValue3
 t4:=Tryz.underlying4
 a4:=Tryz.isAgg4
 z4:=Tryz.sizeOf4
 v4:=Tryz.zeroValue4
 t5:=Tryz.underlying5
 a5:=Tryz.isAgg5
 z5:=Tryz.sizeOf5
 v5:=Tryz.zeroValue5
 t9:=Tryz.underlying9
 a9:=Tryz.isAgg9
 z9:=Tryz.sizeOf9
 v9:=Tryz.zeroValue9
 t22:=Tryz.underlying24
 a22:=Tryz.isAgg24
 z22:=Tryz.sizeOf24
 v22:=Tryz.zeroValue24
 t25:=Tryz.underlying172
 a25:=Tryz.isAgg172
 z25:=Tryz.sizeOf172
 v25:=Tryz.zeroValue172
 t39:=Tryz.underlying192
 a39:=Tryz.isAgg192
 z39:=Tryz.sizeOf192
 v39:=Tryz.zeroValue192
 t45:=Tryz.underlying243
 a45:=Tryz.isAgg243
 z45:=Tryz.sizeOf243
 v45:=Tryz.zeroValue243
 t46:=Tryz.underlying244
 a46:=Tryz.isAgg244
 z46:=Tryz.sizeOf244
 v46:=Tryz.zeroValue244
 t50:=Tryz.underlying119
 a50:=Tryz.isAgg119
 z50:=Tryz.sizeOf119
 v50:=Tryz.zeroValue119
 t53:=Tryz.underlying251
 a53:=Tryz.isAgg251
 z53:=Tryz.sizeOf251
 v53:=Tryz.zeroValue251
 t55:=Tryz.underlying253
 a55:=Tryz.isAgg253
 z55:=Tryz.sizeOf253
 v55:=Tryz.zeroValue253
 t66:=Tryz.underlying278
 a66:=Tryz.isAgg278
 z66:=Tryz.sizeOf278
 v66:=Tryz.zeroValue278
 t70:=Tryz.underlying282
 a70:=Tryz.isAgg282
 z70:=Tryz.sizeOf282
 v70:=Tryz.zeroValue282
 t76:=Tryz.underlying302
 a76:=Tryz.isAgg302
 z76:=Tryz.sizeOf302
 v76:=Tryz.zeroValue302
 t77:=Tryz.underlying303
 a77:=Tryz.isAgg303
 z77:=Tryz.sizeOf303
 v77:=Tryz.zeroValue303 }
end Go.Proofs.YtpejdgkaapnekaaGreat
namespace Go.Proofs.YtpejdgkaapnekaaGreat
open Go Go.Abs
attribute [local irreducible] ac OkC ao ax ap aJ
set_option maxRecDepth 10000
def qs(x : Cell) : AV:=.agg ((av x).map .d)
theorem Mx(x y : Cell) : CallA Tryz.prog 182 [qs x,qs y] [] (.one (.d (.int .i64 (bc x.at' y.at')))) []:=by
 unfold qs av
 simp only [List.map_cons,List.map_nil]
 refine enter ae Tryz.func182 rfl (by decide +kernel) rfl fun hok w0 σ0 φ0 M=>?_
 clear hok
 repeat' (first|(refine h1H ?_; (refine h0H ?_; refine aa J J J J J J J J (c35 _ _) J ?_))|refine wG ?_)
 all_goals (try (((simp_all [am,List.drop_eq_nil_of_le]) <;> exact wL); done))
theorem Mq(id : Nat)(cs ss : List Cell)(hu : ∀ l : List Cell,l.Perm cs→l.Pairwise (fun x y=>¬ bc y.at' x.at' < 0)→l = ss) :
  CallA Tryz.prog 181 [.one (.own id cs.length),.one (.d (.fn 182 []))] [(id,.row 2 48 (cs.map av))] (.tup []) [(id,.row 2 48 (ss.map av))]:=by
 refine Bx KV 2 48 (by omega) Tryz.isAgg56 Tryz.sizeOf56 av (fun _=>rfl) (fun x y=>bc x.at' y.at') (fun x=>by rw [mq]; omega) (fun x y z h1 h2=>?_) (fun x y z h1 h2=>?_) 182 Mx
  (enters_of Tryz.func182 (by kernel_rfl) rfl) ⟨Tryz.f181,Tryz.func181,by kernel_rfl,by kernel_rfl⟩ id cs ss hu
 ·have:=f9 x.at' y.at' z.at' (by omega) (by omega)
  omega
 ·have h3:=gH x.at' y.at'
  have h4:=gH y.at' z.at'
  have h5:=gH x.at' z.at'
  have:=f9 z.at' y.at' x.at' (by omega) (by omega)
  omega
theorem ql{α β : Type}(f : α→β)(l : List α) : (l.map f).take l.length = l.map f:=List.take_of_length_le (by simp)
theorem c95(x : Cell)(ha : x.at'.length≤1048576)(hv : x.vals.length≤1048576) : CallA Tryz.prog 95 [qs x] [] (qs x) []:=by
 unfold qs av
 simp only [List.map_cons,List.map_nil]
 refine enter ae Tryz.func95 rfl (by decide +kernel) rfl fun hok w0 σ0 φ0 M=>?_
 clear hok
 repeat' (first|(refine h4H ?_; refine bu (bR (dl:=[10,11]) J) (cv ?_))|(refine h3H ?_; (refine h2H ?_; first|refine im aq 10 J J J (lW J J J J J J J J (by simp only [List.length_map,Nat.zero_add]; omega) (by simp only [List.length_map,Nat.zero_add]; omega)) J J ?_|refine im aq 11 J J J (lW J J J J J J J J (by simp only [List.length_map,Nat.zero_add]; omega) (by simp only [List.length_map,Nat.zero_add]; omega)) J J ?_))|refine wG ?_)
 all_goals
  show AV.agg [.d (.sl 1 8 ((List.take 0 [] ++ List.map bD x.at').take (0 + (List.map bD x.at').length))),.d (.sl 4 40 ((List.take 0 [] ++ List.map ab x.vals).take (0 + (List.map ab x.vals).length)))] = _
  simp [aL,az,ql]
theorem c94(ds : List Dim)(ats : List Attr)(hd : ds.length≤1048576)(ha : ats.length≤1048576) : CallA Tryz.prog 94 [.one (.d (aH ds)),.one (.d (aF ats))] [] (.agg [.d (aH ds),.d (aF ats),.d .nil]) []:=by
 refine enter ae Tryz.func94 rfl (by decide +kernel) rfl fun hok w0 σ0 φ0 M=>?_
 clear hok
 repeat' (first|(refine h1H ?_; (refine h0H ?_; first|refine dS ae J J J J J (id:=1) J J J J J J J (by simp only [List.length_map,Nat.zero_add]; omega) (by simp only [List.length_map,Nat.zero_add]; omega) ?_|refine dS ae J J J J J (id:=2) J J J J J J J (by simp only [List.length_map,Nat.zero_add]; omega) (by simp only [List.length_map,Nat.zero_add]; omega) ?_))|(refine h4H ?_; refine bu (bR (dl:=[1,2]) J) (cv ?_))|refine wG ?_)
 all_goals
  show AV.agg [.d (.sl 3 32 ((List.take 0 [] ++ List.map bv ds).take (0 + (List.map bv ds).length))),.d (.sl 2 24 ((List.take 0 [] ++ List.map iz ats).take (0 + (List.map iz ats).length))),.d .nil] = _
  simp [aH,aF,ql]
end Go.Proofs.YtpejdgkaapnekaaGreat
