import Derived.Test.YtpejdgkaapnekaaGreatRows
import Derived.Deep.Slices
import Derived.Deep.DeepHandedRow
import Derived.ReadAgain
import Derived.MapPlaces
import Derived.WalkKit
import Derived.ProofKit
import Derived.OpenShut
import Derived.JoinedCond
import Derived.Test.YtpejdgkaapnekaaGreatFP16
import Derived.Test.YtpejdgkaapnekaaGreatFP14
import Derived.Test.YtpejdgkaapnekaaGreatFP15
set_option linter.unusedVariables false
set_option linter.unusedSimpArgs false
set_option maxHeartbeats 1000000
namespace Go.Proofs.YtpejdgkaapnekaaGreat
open Go Go.Abs
open Go.ChangeShapes Go.WideShapes Go.ChangeAt Go.RowKit
section
variable {H : Type} {en : TypeId×Value→H} {W : World}
theorem rk(d : DataW H) : 1≤Rows.uptoBulk d:=by
 cases d with
 | lit l=>cases l <;> simp [Rows.uptoBulk]
 | _=>simp [Rows.uptoBulk]
theorem nY{d : DataW H} : ∀ {l : List (DataW H)},d∈l→Rows.uptoBulk d≤Rows.uptoBulkAll l
 | [],h=>by simp at h
 | x::r,h=>by
   simp only [Rows.uptoBulkAll]
   rcases List.mem_cons.1 h with rfl | h
   ·omega
   ·have:=nY h; omega
theorem wX : ∀ (l : List (DataW H)),l.length≤Rows.uptoBulkAll l
 | []=>by simp [Rows.uptoBulkAll]
 | x::r=>by have:=rk x; have:=wX r; simp only [Rows.uptoBulkAll,List.length_cons]; omega
def sg(W : World) : Sig:=fun b=>match W.heap[b]? with | some (.cells cs _ _)=>some cs | _=>none
theorem y8{b : Nat}{cs : Array Value}(h : sg W b = some cs) : ∃ t f,W.heap[b]? = some (.cells cs t f):=by
 unfold sg at h
 split at h
 ·rename_i c t f hh; cases h; exact ⟨t,f,hh⟩
 ·cases h
theorem Hn(φ : Pl) : HInv (sg W) φ [] W:=⟨fun b cs h=>y8 h,fun i e h=>by simp [Abs.look] at h,fun i i' e e' p p' h=>by simp [Abs.look] at h⟩
def Rd(en : TypeId×Value→H)(W : World)(N : Nat)(t : TypeId){α : Type}(f : α→List D)(Q : α→Prop) : Prop :=
 ∀ (fuel : Nat) (cs : List Value) (x : DataW H×List MemPlace),DataW.trod en Tryz.prog W 0 (fun _=>true) true fuel t cs = some x→Rows.uptoBulk x.1≤N→∃ a : α,Q a∧All2 (Rep (sg W)) (f a) cs
def yes{α : Type}(_ : α) : Prop:=True
theorem Rd.mono{N M : Nat}{t : TypeId}{α : Type}{f : α→List D}{Q : α→Prop}(h : Rd en W N t f Q)(hm : M≤N) : Rd en W M t f Q:=fun fuel cs x hx hb=>h fuel cs x hx (by omega)
theorem kn{N : Nat}{t : TypeId}(ht : Tryz.prog.underlying t = some (.int .i64)) : Rd en W N t (fun n : Int=>[.int .i64 n]) yes:=by
 intro fuel cs x h _
 obtain ⟨n,rfl,_,hw⟩:=DataW.trod_int ht h
 have hw':=bounds_i64 hw
 refine ⟨n,trivial,.int ?_,trivial⟩
 simp only [inR,IntKind.min,IntKind.max,IntKind.signed,IntKind.bits,if_true]
 omega
theorem sb{N : Nat}{t : TypeId}(hN : N≤1048576)(ht : Tryz.prog.underlying t = some .string) : Rd en W N t (fun s : List UInt8=>[.str s]) yes:=by
 intro fuel cs x h hb
 obtain ⟨s,rfl,rfl,_⟩:=DataW.trod_string ht h
 simp only [Rows.uptoBulk] at hb
 have:=Rep.str (σ:=sg W) (s:=s.data.toList) (by omega)
 refine ⟨s.data.toList,trivial,?_,trivial⟩
 simpa using this
def AB{α : Type}(N : Nat)(Q : α→Prop)(l : List α) : Prop:=l.length≤N∧∀ x∈l,Q x
theorem jV{N k b : Nat}{t e : TypeId}{α : Type}[Inhabited α]{f : α→List D}{Q : α→Prop}(hN : N≤1048575)(hb : b≤1000)(hk : 0 < k)(ht : Tryz.prog.underlying t = some (.slice e))(hc : Tryz.prog.cellsOf e = k)(he : Rd en W N e f Q) : Rd en W (N + 1) t (fun l : List α=>[.sl k b (l.map f)]) (AB N Q):=by
 intro fuel cs x h hbk
 rcases Deep.open_slice ht h with ⟨rfl,rfl⟩ | ⟨a,len,cap,m,n,Dd,Pl,rfl,_,hl,_,hm,rfl,hel⟩
 ·refine ⟨[],⟨by simp,by simp⟩,?_,trivial⟩
  exact .sl (fun _ _=>undef) (by simp) (by simp) (by simp) (by simp) (by simp) (by simp)
 ·simp only [if_true] at hm
  subst hm
  rw [hc] at hel
  simp only [Rows.uptoBulk] at hbk
  have hlen : len≤N:=by
   have:=wX ((List.range len).map Dd)
   simp only [List.length_map,List.length_range] at this
   omega
  have hpart : ∀ i,i < len→Rows.uptoBulk (Dd i)≤N:=by
   intro i hi
   have:=nY (d:=Dd i) (l:=(List.range len).map Dd) (List.mem_map.2 ⟨i,List.mem_range.2 hi,rfl⟩)
   omega
  obtain ⟨g,hg⟩:=Deep.choose_lt (n:=len) (p:=fun i (y : α)=>Q y∧∃ cs',W.cells? 0 (a.add (i * k)) k = some cs'∧All2 (Rep (sg W)) (f y) cs') (fun i hi=>by
   obtain ⟨cs',h1,h2⟩:=hel i (by omega)
   obtain ⟨y,hq,hy⟩:=he _ _ _ h2 (hpart i hi)
   exact ⟨y,hq,cs',h1,hy⟩)
  have hcell : ∀ i,i < len→∀ j,j < k→∃ v,W.cell? ((a.add (i * k)).add j) = some v∧∀ d,(f (g i))[j]? = some d→Rep (sg W) d v:=by
   intro i hi j hj
   obtain ⟨_,cs',h1,h2⟩:=hg i hi
   obtain ⟨_,h3,h4⟩:=World.cells?_some h1
   have h5 : cs'[j]? = some (cs'[j]'(by omega)):=List.getElem?_eq_getElem (by omega)
   refine ⟨_,(h4 j hj).trans h5,fun d hd=>?_⟩
   obtain ⟨v,hv,hr⟩:=h2.get hd
   rw [h5] at hv; cases hv; exact hr
  have hfl : ∀ i,i < len→(f (g i)).length = k:=by
   intro i hi
   obtain ⟨_,cs',h1,h2⟩:=hg i hi
   rw [h2.length]; exact (World.cells?_some h1).2.1
  have hadd : ∀ i j,i < len→j < k→a.spot = none→((a.add (i * k)).add j) = ⟨a.block,a.off + i * k + j,none⟩:=by
   intro i j _ _ hs
   obtain ⟨B,o,sp⟩:=a
   simp only at hs
   subst hs
   by_cases h1 : i * k = 0 <;> by_cases h2 : j = 0 <;> simp [Addr.add,h1,h2]
  have hA : 0 < len→∃ cells : Array Value,a.spot = none∧sg W a.block = some cells:=by
   intro h0
   obtain ⟨v,hv,_⟩:=hcell 0 h0 0 hk
   have e0 : ((a.add (0 * k)).add 0) = a:=by simp [Addr.add]
   rw [e0] at hv
   unfold World.cell? at hv
   unfold sg
   split at hv
   ·rename_i c t2 f2 hh
    rw [hh]
    split at hv
    ·cases hv
    ·rename_i hs
     exact ⟨c,by simpa using hs,rfl⟩
   ·cases hv
  refine ⟨(List.range len).map g,⟨by simpa using hlen,fun y hy=>?_⟩,?_,trivial⟩
  ·obtain ⟨i,hi,rfl⟩:=List.mem_map.1 hy
   exact (hg i (List.mem_range.1 hi)).1
  have hll : (((List.range len).map g).map f).length = len:=by simp
  have key : Rep (sg W) (.sl k b (((List.range len).map g).map f)) (.slice (some a) (((List.range len).map g).map f).length m):=by
   refine .sl (fun i j=>(W.cell? ((a.add (i * k)).add j)).getD undef) (by rw [hll]; exact hl) (by rw [hll]; omega) (by
    rw [hll]
    have : len * b≤1048576 * 1000:=Nat.mul_le_mul (by omega) hb
    omega) (fun x hx=>?_) (fun h0=>?_) (fun i j x d hx hd=>?_)
   ·simp only [List.mem_map,List.mem_range] at hx
    obtain ⟨y,⟨i,hi,rfl⟩,rfl⟩:=hx
    exact hfl i hi
   ·rw [hll] at h0
    obtain ⟨cells,hs,hsg⟩:=hA h0
    refine ⟨a.block,a.off,cells,?_,hsg,fun i j hi hj=>?_⟩
    ·obtain ⟨B,o,sp⟩:=a; simp only at hs; subst hs; rfl
    ·rw [hll] at hi
     obtain ⟨v,hv,_⟩:=hcell i hi j hj
     rw [hv]
     rw [hadd i j hi hj hs] at hv
     obtain ⟨t2,f2,hh⟩:=y8 hsg
     simp only [World.cell?,hh] at hv
     simpa using hv
   ·simp only [List.getElem?_map,Option.map_eq_some_iff] at hx
    obtain ⟨y,⟨i',hi',rfl⟩,rfl⟩:=hx
    have hi : i < len:=by
     have:=(List.getElem?_eq_some_iff.1 hi').1
     simpa using this
    have hii : i' = i:=by simpa [List.getElem?_range hi] using hi'.symm
    subst hii
    have hj : j < k:=by rw [← hfl i' hi]; exact (List.getElem?_eq_some_iff.1 hd).1
    obtain ⟨v,hv,hr⟩:=hcell i' hi j hj
    rw [hv]
    exact hr d hd
  rw [hll] at key
  exact key
theorem eC{R : D→Value→Prop}{a b : List D}{cs : List Value}{o n m : Nat}(h1 : All2 R a ((cs.drop o).take n))(h2 : All2 R b ((cs.drop (o + n)).take m)) : All2 R (a ++ b) ((cs.drop o).take (n + m)):=by
 rw [List.take_add,List.drop_drop]
 exact h1.append h2
theorem c5{N : Nat}{t u : TypeId}{fs : Array Field}{fuel : Nat}{cs : List Value}{x : DataW H×List MemPlace}(ht : Tryz.prog.underlying t = some (.struct fs))(h : DataW.trod en Tryz.prog W 0 (fun _=>true) true fuel t cs = some x)(hb : Rows.uptoBulk x.1≤N + 1)
  (i : Nat) {fd : Field} (hf : fs[i]? = some fd) {α : Type} {f : α→List D} {Q : α→Prop} (hr : Rd en W N fd.type f Q) {c : Nat} (hc : Tryz.prog.cellsOf fd.type = c) : ∃ a,Q a∧All2 (Rep (sg W)) (f a) ((cs.drop fd.offset).take c):=by
 subst hc
 obtain ⟨xs,n,_,rfl,_,hl,hx⟩:=DataW.trod_struct ht h
 have h2:=hx i fd hf
 have hi : i < xs.length:=by rw [hl]; exact (Array.getElem?_eq_some_iff.1 hf).1
 rw [List.getElem?_eq_getElem hi] at h2
 refine hr _ _ _ h2 ?_
 have:=nY (d:=(xs[i]).1) (l:=xs.map (·.1)) (List.mem_map.2 ⟨_,List.getElem_mem hi,rfl⟩)
 simp only [Rows.uptoBulk] at hb
 omega
theorem mT{t : TypeId}{fs : Array Field}{fuel : Nat}{cs : List Value}{x : DataW H×List MemPlace}(ht : Tryz.prog.underlying t = some (.struct fs))(h : DataW.trod en Tryz.prog W 0 (fun _=>true) true fuel t cs = some x) : cs.length = Tryz.prog.cellsOf t:=by
 obtain ⟨_,_,_,_,hl,_⟩:=DataW.trod_struct ht h
 exact hl
theorem mU : Tryz.prog.cellsOf 3 = 1:=by kernel_rfl
theorem sc : Tryz.prog.cellsOf 2 = 1:=by kernel_rfl
theorem sd : Tryz.prog.cellsOf 9 = 1:=by kernel_rfl
theorem tC : Tryz.prog.cellsOf 28 = 4:=by kernel_rfl
theorem Fp : Tryz.prog.cellsOf 29 = 1:=by kernel_rfl
theorem y9 : Tryz.prog.cellsOf 31 = 7:=by kernel_rfl
theorem za : Tryz.prog.cellsOf 82 = 2:=by kernel_rfl
theorem zb : Tryz.prog.cellsOf 53 = 3:=by kernel_rfl
theorem Fq : Tryz.prog.cellsOf 22 = 1:=by kernel_rfl
theorem Fr : Tryz.prog.cellsOf 23 = 1:=by kernel_rfl
theorem Fs : Tryz.prog.cellsOf 24 = 1:=by kernel_rfl
theorem Ft : Tryz.prog.cellsOf 26 = 3:=by kernel_rfl
theorem lz{R : D→Value→Prop}{a : List D}{cs : List Value}{n : Nat}(h : All2 R a ((cs.drop 0).take n))(hl : cs.length = n) : All2 R a cs:=by
 rw [List.drop_zero,List.take_of_length_le (by omega)] at h; exact h
theorem B9{N : Nat}(hN : N≤1048575) : Rd en W (N + 1) 28 (fun v : Val=>[.int .i64 v.kind,.int .i64 v.num,.int .i64 v.den,.str v.str]) yes:=by
 intro fuel cs x h hb
 obtain ⟨k,_,hk⟩:=c5 (u:=0) Tryz.underlying28 h hb 0 rfl (kn Tryz.underlying3) mU
 obtain ⟨n,_,hn⟩:=c5 (u:=0) Tryz.underlying28 h hb 1 rfl (kn Tryz.underlying2) sc
 obtain ⟨d,_,hd⟩:=c5 (u:=0) Tryz.underlying28 h hb 2 rfl (kn Tryz.underlying2) sc
 obtain ⟨s,_,hs⟩:=c5 (u:=0) Tryz.underlying28 h hb 3 rfl (sb (by omega) Tryz.underlying9) sd
 exact ⟨⟨k,n,d,s⟩,trivial,lz (eC (eC (eC hk hn) hd) hs) ((mT Tryz.underlying28 h).trans tC)⟩
theorem Ho{N : Nat}(hN : N≤1048575) : Rd en W (N + 1) 53 wY yes:=by
 intro fuel cs x h hb
 obtain ⟨s,_,hs⟩:=c5 (u:=0) Tryz.underlying53 h hb 0 rfl (sb (by omega) Tryz.underlying9) sd
 obtain ⟨k,_,hk⟩:=c5 (u:=0) Tryz.underlying53 h hb 1 rfl (kn Tryz.underlying3) mU
 obtain ⟨n,_,hn⟩:=c5 (u:=0) Tryz.underlying53 h hb 2 rfl (kn Tryz.underlying3) mU
 exact ⟨⟨s,k,n⟩,trivial,lz (eC (eC hs hk) hn) ((mT Tryz.underlying53 h).trans zb)⟩
theorem Fu{N : Nat}(hN : N≤1048575) : Rd en W (N + 1) 82 tD yes:=by
 intro fuel cs x h hb
 obtain ⟨s,_,hs⟩:=c5 (u:=0) Tryz.underlying82 h hb 0 rfl (sb (by omega) Tryz.underlying9) sd
 obtain ⟨k,_,hk⟩:=c5 (u:=0) Tryz.underlying82 h hb 1 rfl (kn Tryz.underlying3) mU
 exact ⟨⟨s,k⟩,trivial,lz (eC hs hk) ((mT Tryz.underlying82 h).trans za)⟩
theorem Ca : ∀ (N : Nat),N≤1048576→Rd en W N 31 nX yes:=by
 intro N
 induction N using Nat.strongRecOn with
 | _ N ih =>
   intro hN fuel cs x h hb
   have h1:=rk x.1
   obtain ⟨xs,n0,_,hx,_,hl,hfx⟩:=DataW.trod_struct Tryz.underlying31 h
   obtain ⟨M,rfl⟩ : ∃ M,N = M + 1:=⟨N - 1,by omega⟩
   obtain ⟨o,_,ho⟩:=c5 (u:=0) Tryz.underlying31 h hb 0 rfl (kn Tryz.underlying3) mU
   obtain ⟨s,_,hs⟩:=c5 (u:=0) Tryz.underlying31 h hb 1 rfl (sb (by omega) Tryz.underlying9) sd
   have hM : 1≤M:=by
    have hi : 0 < xs.length:=by rw [hl]; decide
    have h3:=nY (d:=(xs[0]).1) (l:=xs.map (·.1)) (List.mem_map.2 ⟨_,List.getElem_mem hi,rfl⟩)
    have h4:=rk (xs[0]).1
    rw [hx] at hb
    simp only [Rows.uptoBulk] at hb
    omega
   obtain ⟨L,rfl⟩ : ∃ L,M = L + 1:=⟨M - 1,by omega⟩
   obtain ⟨v,_,hv⟩:=c5 (u:=0) Tryz.underlying31 h hb 2 rfl (B9 (N:=L) (by omega)) tC
   obtain ⟨l,_,hlst⟩:=c5 (u:=0) Tryz.underlying31 h hb 3 rfl (jV (k:=7) (b:=88) (by omega) (by omega) (by omega) Tryz.underlying29 y9 (ih L (by omega) (by omega))) Fp
   refine ⟨.mk o s v l,trivial,?_⟩
   rw [tB]
   exact lz (eC (eC (eC ho hs) hv) hlst) ((mT Tryz.underlying31 h).trans y9)
theorem Fv : Tryz.prog.cellsOf 37 = 1:=by kernel_rfl
theorem Fw : Tryz.prog.cellsOf 54 = 1:=by kernel_rfl
theorem zc : Tryz.prog.cellsOf 56 = 2:=by kernel_rfl
def DO(N : Nat)(c : Cell) : Prop:=c.at'.length≤N∧c.vals.length≤N
theorem zd{N : Nat}(hN : N≤1048573) : Rd en W (N + 3) 56 kU (DO (N + 1)):=by
 intro fuel cs x h hb
 obtain ⟨a,qa,ha⟩:=c5 (u:=0) Tryz.underlying56 h hb 0 rfl (jV (f:=dA) (N:=N + 1) (k:=1) (b:=8) (by omega) (by omega) (by omega) Tryz.underlying37 mU (kn Tryz.underlying3)) Fv
 obtain ⟨v,qv,hv⟩:=c5 (u:=0) Tryz.underlying56 h hb 1 rfl (jV (f:=aj) (N:=N + 1) (k:=4) (b:=40) (by omega) (by omega) (by omega) Tryz.underlying54 tC (B9 (by omega))) Fw
 exact ⟨⟨a,v⟩,⟨qa.1,qv.1⟩,lz (eC ha hv) ((mT Tryz.underlying56 h).trans zc)⟩
def LG(N : Nat)(a : Arr) : Prop:=AB N yes a.dims∧AB N yes a.attrs∧AB N (DO N) a.cells
theorem Hp{N : Nat}(hN : N≤1048571) : Rd en W (N + 5) 26 Hq (LG (N + 3)):=by
 intro fuel cs x h hb
 obtain ⟨d,qd,hd⟩:=c5 (u:=0) Tryz.underlying26 h hb 0 rfl (jV (f:=wY) (N:=N + 3) (k:=3) (b:=32) (by omega) (by omega) (by omega) Tryz.underlying22 zb (Ho (by omega))) Fq
 obtain ⟨a,qa,ha⟩:=c5 (u:=0) Tryz.underlying26 h hb 1 rfl (jV (f:=tD) (N:=N + 3) (k:=2) (b:=24) (by omega) (by omega) (by omega) Tryz.underlying23 za (Fu (by omega))) Fr
 obtain ⟨c,qc,hc⟩:=c5 (u:=0) Tryz.underlying26 h hb 2 rfl (jV (f:=kU) (N:=N + 3) (k:=2) (b:=48) (by omega) (by omega) (by omega) Tryz.underlying24 zc (zd (by omega))) Fs
 exact ⟨⟨d,a,c⟩,⟨qd,qa,qc.1,fun x hx=>by have:=qc.2 x hx; unfold DO at *; omega⟩,lz (eC (eC hd ha) hc) ((mT Tryz.underlying26 h).trans Ft)⟩
theorem nZ{P : Program}{t : TypeId}{fs : Array Field}{r : Reach}{base : Nat}{v : Value}(ht : P.underlying t = some (.struct fs))(h : Value.okWide P W r base t v) : ∃ cs : List Value,v = .agg cs.toArray:=by
 unfold Value.okWide at h
 rw [ht] at h
 obtain ⟨cs,rfl,_⟩:=h
 exact ⟨cs.toList,by simp⟩
theorem wZ{W' : World} : ∀ {ts : List TypeId} {vs : List Value} {ds : List (DataW H)} {ps : List MemPlace},DataW.TrodAll en Tryz.prog W 0 (fun _=>true) true ts vs ds ps→(∀ p∈ps,W.sameAt W' p)→DataW.TrodAll en Tryz.prog W' 0 (fun _=>true) true ts vs ds ps
 | [],[],[],_,h,_=>h
 | _::_,_::_,_::_,_,⟨p,q,⟨n,h1⟩,h2,e⟩,hs=>⟨p,q,⟨n,DataW.trod_carry n _ _ _ h1 fun x hx=>hs x (by rw [e]; exact List.mem_append_left _ hx)⟩,wZ h2 fun x hx=>hs x (by rw [e]; exact List.mem_append_right _ hx),e⟩
theorem own : ownKnob Tryz.prog.godebug = none:=by kernel_rfl
theorem LH : Kids Tryz.prog (· < Tryz.prog.types.size):=kids_rows (by kernel_rfl) (by kernel_rfl)
set_option maxRecDepth 100000 in
theorem LJ : ∀ t e,t < Tryz.prog.types.size→Tryz.prog.underlying t = some (.slice e)→0 < Tryz.prog.cellsOf e:=slices_full_of Tryz.prog (by kernel_rfl)
theorem uE{W' : World}(h : Kept (MOf (fun _=>none) []) W W') : ∀ b,b < W.heap.size→W'.heap[b]? = W.heap[b]?:=fun b hb=>h.block b hb (by rintro ⟨id,e,p,h1,_⟩; simp [Abs.look] at h1)
theorem Fx{W' : World}(h : Kept (MOf (fun _=>none) []) W W')(may : MemPlace→Prop) : W.keptBut W' may :=
 ⟨h.os,h.output,fun i hi=>by rw [uE h i hi]; exact (World.keptBut_refl W may).2.2 i hi⟩
theorem DP{W' : World}(h : Kept (MOf (fun _=>none) []) W W'){p : MemPlace}(hp : p.block < W.heap.size) : W.sameAt W' p:=by
 have hb:=uE h p.block hp
 cases p with
 | cell b off=>show W'.cell? ⟨b,off,none⟩ = W.cell? ⟨b,off,none⟩; unfold World.cell?; rw [show W'.heap[b]? = W.heap[b]? from hb]
 | map b=>exact hb
theorem mA{σ : Sig}{φ : Pl}{sto : Sto} : ∀ {ds : List D} {vs : List Value},All2 (Rep σ) ds vs→All2 (RepC σ φ sto) (ds.map .d) vs
 | [],[],_=>trivial
 | d::r,v::vs,h=>⟨.d h.1,mA h.2⟩
 | [],_::_,h=>h.elim
 | _::_,[],h=>h.elim
theorem tsz : Nat.blt 300 Tryz.prog.types.size = true:=by kernel_rfl
theorem few{t : Nat}(h : t≤300) : t < Tryz.prog.types.size:=by have:=Nat.blt_eq.mp tsz; omega
theorem DQ{W' : World}{base : Nat}{sp : Nat→Bool}{held : Bool}(b : Bool) : DataW.Trod en Tryz.prog W' base sp held 4 (.bool b) (.lit (.bool b)) []:=⟨1,by simp [DataW.trod,Value.cells,Tryz.underlying4]⟩
end
end Go.Proofs.YtpejdgkaapnekaaGreat
namespace Go.Proofs.YtpejdgkaapnekaaGreat
open Go Go.Abs
attribute [local irreducible] ao OkC aU bg aV bA
set_option maxRecDepth 10000
theorem c90 : ∀ (m : Nat) (s : Scalar) (z : Int),z = m→m≤12→CallA Tryz.prog 90 [du s,.one (.d (.int .i64 z))] [] (.one (.d (.int .i64 (di m s)))) []
 | 0,s,z,hz,hm=>by
   subst hz
   refine enter ab Tryz.func90 rfl (by decide +kernel) rfl fun hok w0 σ0 φ0 M=>?_
   clear hok
   repeat' (first|(refine h6H ?_; first|refine ac ?_|refine ah ab J J J J J ?_|(refine bC ?_; refine aM 0 J J J J J J ?_))|(refine h7H ?_; first|refine al ?_|refine ae ?_|refine am ?_|refine bc J ?_)|refine ak ?_|refine aC ?_|refine ai (.inl J) J J ?_)
   all_goals (try (((simp_all [di,aO,List.drop_eq_nil_of_le]) <;> first | omega | (rw [Bool.eq_iff_iff]; simp; omega) | grind); done))
 | m + 1,s,z,hz,hm=>by
   have ih:=fun (s : Scalar) (z : Int) (hz : z = m)=>c90 m s z hz (by omega)
   refine enter ab Tryz.func90 rfl (by decide +kernel) rfl fun hok w0 σ0 φ0 M=>?_
   have h1:=(OkD.sl (hok.1 (.d (dn s.args)) (by simp))).1; clear hok; simp only [List.length_map] at h1
   have hf:=fun k=>nS (f:=di m) (B:=m + 1) (fun x=>by have:=pa m x; omega) (s.args.take k) 0 (by omega) (by omega)
   repeat' (first|(refine h6H ?_; first|refine ac ?_|refine ah ab J J J J J ?_|(refine h1H ?_; first|refine s_e aa J J J (aL J J J J (aN (by omega) (by omega))) ?_|refine dk ab J J J J ?_)|(refine fY ?_; refine s_e aa J J J (bW J J J J (aN (by omega) (by omega))) ?_)|(refine h3H ?_; refine s_e aa J J J (ar J J J J J (by first|omega|((try simp only [a0A,a1A,a2A,a3A,a4A,a5A,a6A,a7A,a8A,a9A,au,av] at *); omega)) (jQ (by first|omega|((try simp only [a0A,a1A,a2A,a3A,a4A,a5A,a6A,a7A,a8A,a9A,au,av] at *); omega)))) ?_)|(refine h4H ?_; refine ag J J J J J J J J (ih _ _ (by omega)) J ?_)|(refine bC ?_; refine aM 0 J J J J J J ?_))|(refine h7H ?_; first|refine al ?_|refine ae ?_|refine ay ?_|refine aw ?_|refine am ?_|refine aW ?_|refine aA J (fun h=>?_) (fun h=>?_)|refine bk 5 J [(1,_),(2,_)] (q2Q J J) (fun (p : Nat×Int)=>[(5,.one (.d (.int .i64 p.2))),(6,.one (.d (.int .i64 (p.1 : Int))))]) (fun (p : Nat×Int)=>p.1≤s.args.length∧p.2 = (s.args.take p.1).foldl (fun d x=>max d (di m x)) 0) (fun (p : Nat×Int)=>s.args.length - p.1) (0,0) (q2Q J J) ?_ (fun p ⟨hk,hd⟩=>?_))|(show Exists _; refine Exists.intro ((p.1 + 1,max p.2 (di m (at_ s.args p.1)))) ⟨?_,?_,(by (repeat' first|exact ap|refine af J ?_); done),(q2Q J J),(q2Q J J)⟩)|refine ak ?_|refine aC ?_|refine bd ?_|refine aG ?_|refine aX J ?_|refine ai (.inl J) J J ?_)
   all_goals (try (((simp_all [di,BV,aO,List.drop_eq_nil_of_le]) <;> first | omega | (rw [Bool.eq_iff_iff]; simp; omega) | grind); done))
   ·have hw:=hf p.1
    rw [← hd] at hw
    have hl : s.args.length≤p.1:=by simpa using h
    rw [aN (by omega) (by omega),hd,List.take_of_length_le hl]
    rfl
mutual
def dC : Scalar→Int→Int
 | .mk _ _ _ a,most=>dM a 1 most
def dM : List Scalar→Int→Int→Int
 | [],n,_=>n
 | x::r,n,most=>if n≤most then dM r (n + dC x (most - n)) most else n
end
theorem pb : ∀ {s : Scalar} {most : Int},dC s most = dM s.args 1 most
 | .mk _ _ _ a,most=>by simp [dC,Scalar.args]
theorem om{most : Int} : ∀ (l : List Scalar),(∀ x∈l,∀ m,0≤m→1≤dC x m∧dC x m≤m + 1)→∀ n,1≤n→n≤most + 1→1≤dM l n most∧dM l n most≤most + 1
 | [],_,n,h1,h2=>by simp [dM,h1,h2]
 | x::r,h,n,h1,h2=>by
   simp only [dM]
   split
   ·have:=h x (by simp) (most - n) (by omega)
    exact om r (fun y hy=>h y (by simp [hy])) _ (by omega) (by omega)
   ·exact ⟨h1,h2⟩
theorem pc(s : Scalar) : ∀ m,0≤m→1≤dC s m∧dC s m≤m + 1:=by
 induction s using Scalar.ind with
 | h s ih =>
   intro m hm
   rw [pb]
   exact om s.args ih 1 (by omega) (by omega)
theorem c91(s : Scalar) : ∀ (z : Int),0≤z→z≤64→CallA Tryz.prog 91 [du s,.one (.d (.int .i64 z))] [] (.one (.d (.int .i64 (dC s z)))) []:=by
 induction s using Scalar.ind with
 | h s ih =>
   intro z hz hz2
   refine enter ab Tryz.func91 rfl (by decide +kernel) rfl fun hok w0 σ0 φ0 M=>?_
   have h1:=(OkD.sl (hok.1 (.d (dn s.args)) (by simp))).1; clear hok; simp only [List.length_map] at h1
   repeat' (first|(refine h6H ?_; first|refine ac ?_|refine ah ab J J J J J ?_|(refine h0H ?_; first|refine aT J J (by first|assumption|rfl) ?_|refine bH J J (by first|assumption|rfl) J J ?_|refine bn J J J J (fun h=>?_) (fun h=>?_))|(refine h1H ?_; first|refine s_e aa J J J (aL J J J J (aN (by omega) (by omega))) ?_|refine dk ab J J J J ?_)|(refine fY ?_; refine s_e aa J J J (bW J J J J (aN (by omega) (by omega))) ?_)|(refine h2H ?_; first|refine s_e aa J J J (aF J J (by first|rfl|assumption) J) ?_|refine s_e aa J J J (az J J (by first|rfl|assumption) J) ?_)|(refine h3H ?_; refine s_e aa J J J (ar J J J J J (by first|omega|((try simp only [a0A,a1A,a2A,a3A,a4A,a5A,a6A,a7A,a8A,a9A,au,av] at *); omega)) (jQ (by first|omega|((try simp only [a0A,a1A,a2A,a3A,a4A,a5A,a6A,a7A,a8A,a9A,au,av] at *); omega)))) ?_)|(refine h4H ?_; refine ag J J J J J J J J (ih _ (ea (by first|omega|((try simp only [a0A,a1A,a2A,a3A,a4A,a5A,a6A,a7A,a8A,a9A,au,av] at *); omega))) _ (by first|omega|((try simp only [a0A,a1A,a2A,a3A,a4A,a5A,a6A,a7A,a8A,a9A,au,av] at *); omega)) (by first|omega|((try simp only [a0A,a1A,a2A,a3A,a4A,a5A,a6A,a7A,a8A,a9A,au,av] at *); omega))) J ?_)|(refine bC ?_; refine aM 0 J J J J J J ?_))|(refine h7H ?_; first|refine al ?_|refine ae ?_|refine ay ?_|refine aw ?_|refine am ?_|refine aW ?_|refine bm J ?_|refine aA J (fun h=>?_) (fun h=>?_)|refine bk 3 J [(1,_),(2,_)] (q2Q J J) (fun (p : Nat×Int)=>[(5,.one (.d (.int .i64 p.2))),(6,.one (.d (.int .i64 (p.1 : Int))))]) (fun (p : Nat×Int)=>p.1≤s.args.length∧1≤p.2∧p.2≤z + 1∧dC s z = dM (s.args.drop p.1) p.2 z) (fun (p : Nat×Int)=>s.args.length - p.1) (0,1) (q2Q J J) ?_ (fun p ⟨hk,hn,hn2,hs⟩=>?_))|(show Exists _; refine Exists.intro ((p.1 + 1,IntKind.i64.wrap (p.2 + dC (at_ s.args p.1) (z - p.2)))) ⟨?_,?_,(by (repeat' first|exact ap|refine af J ?_); done),(q2Q J J),(q2Q J J)⟩)|refine ak ?_|refine bd ?_|refine aG ?_|refine aX J ?_|refine ai (.inl J) J J ?_)
   all_goals (try (((simp_all [pb,dM,aO,List.drop_eq_nil_of_le]) <;> first | omega | (rw [Bool.eq_iff_iff]; simp; omega) | grind); done))
   ·rename_i hlt
    have hk' : p.1 < s.args.length:=by simpa using hlt
    have hle : p.2≤z:=by simpa using h
    have hr:=pc (at_ s.args p.1) (z - p.2) (by omega)
    rw [aN (by omega) (by omega)]
    refine ⟨by show p.1 + 1≤_; omega,by show 1≤p.2 + _; omega,by show p.2 + _≤_; omega,?_⟩
    rw [hs,aO hk']
    simp only [dM,hle,if_true]
end Go.Proofs.YtpejdgkaapnekaaGreat
namespace Go.Proofs.YtpejdgkaapnekaaGreat
open Go Go.Abs
attribute [local irreducible] ao OkC aU bg aV bA
set_option maxRecDepth 10000
theorem JI(nm : List UInt8)(lo hi : Int) : CallA Tryz.prog 139 [.agg [.d (.str nm),.d (.int .i64 lo),.d (.int .i64 hi)]] [] (.one (.d (.str nm))) []:=by
 refine enter ab Tryz.func139 rfl (by decide +kernel) rfl fun hok w0 σ0 φ0 M=>?_
 repeat' (first|(refine h6H ?_; first|refine ac ?_|refine ah ab J J J J J ?_|(refine bC ?_; refine aM 0 J J J J J J ?_))|(refine h7H ?_; first|refine al ?_|refine ae ?_|refine am ?_)|refine ak ?_|refine ai (.inl J) J J ?_)
 all_goals (try (((simp_all [aO,List.drop_eq_nil_of_le]) <;> first | omega | (rw [Bool.eq_iff_iff]; simp; omega) | grind); done))
theorem JJ(nm : List UInt8)(t : Int) : CallA Tryz.prog 151 [.agg [.d (.str nm),.d (.int .i64 t)]] [] (.one (.d (.str nm))) []:=by
 refine enter ab Tryz.func151 rfl (by decide +kernel) rfl fun hok w0 σ0 φ0 M=>?_
 repeat' (first|(refine h6H ?_; first|refine ac ?_|refine ah ab J J J J J ?_|(refine bC ?_; refine aM 0 J J J J J J ?_))|(refine h7H ?_; first|refine al ?_|refine ae ?_|refine am ?_)|refine ak ?_|refine ai (.inl J) J J ?_)
 all_goals (try (((simp_all [aO,List.drop_eq_nil_of_le]) <;> first | omega | (rw [Bool.eq_iff_iff]; simp; omega) | grind); done))
theorem JK(nm name : List UInt8)(lo hi : Int) : CallA Tryz.prog 245 [.agg [.d (.str nm),.d (.int .i64 lo),.d (.int .i64 hi)],.one (.d (.ptr [.fn 139 []])),.one (.d (.ptr [.str name]))] [] (.one (.d (.bool (nm == name)))) []:=by
 refine enter ab Tryz.func245 rfl (by decide +kernel) rfl fun hok w0 σ0 φ0 M=>?_
 repeat' (first|(refine h6H ?_; first|refine ac ?_|refine ah ab J J J J J ?_|(refine bC ?_; refine aM 0 J J J J J J ?_))|(refine h7H ?_; first|refine al ?_|refine ae ?_|refine am ?_|refine aR progOk.mo ?_)|(refine bP ?_; first|refine bG (by kernel_rfl) ?_|refine d_e aa J J J (aK J J) ?_|(refine h9H ?_; refine d_l J J (bj J J J J J J (JI _ _ _) J) ?_))|refine ak ?_|refine ai (.inl J) J J ?_)
 all_goals (try (((simp_all [aO,List.drop_eq_nil_of_le]) <;> first | omega | (rw [Bool.eq_iff_iff]; simp; omega) | grind); done))
theorem JL(nm name : List UInt8)(t : Int) : CallA Tryz.prog 251 [.agg [.d (.str nm),.d (.int .i64 t)],.one (.d (.ptr [.fn 151 []])),.one (.d (.ptr [.str name]))] [] (.one (.d (.bool (nm == name)))) []:=by
 refine enter ab Tryz.func251 rfl (by decide +kernel) rfl fun hok w0 σ0 φ0 M=>?_
 repeat' (first|(refine h6H ?_; first|refine ac ?_|refine ah ab J J J J J ?_|(refine bC ?_; refine aM 0 J J J J J J ?_))|(refine h7H ?_; first|refine al ?_|refine ae ?_|refine am ?_|refine aR progOk.mo ?_)|(refine bP ?_; first|refine bG (by kernel_rfl) ?_|refine d_e aa J J J (aK J J) ?_|(refine h9H ?_; refine d_l J J (bj J J J J J J (JJ _ _) J) ?_))|refine ak ?_|refine ai (.inl J) J J ?_)
 all_goals (try (((simp_all [aO,List.drop_eq_nil_of_le]) <;> first | omega | (rw [Bool.eq_iff_iff]; simp; omega) | grind); done))
theorem JM(f : FuncId)(caps : List D)(p : Dim→Bool)(hp : ∀ d : Dim,CallA Tryz.prog f ([.agg [.d (.str d.name),.d (.int .i64 d.lo),.d (.int .i64 d.hi)]] ++ caps.map fun x=>.one (.d x)) [] (.one (.d (.bool (p d)))) [])(l : List Dim) :
  CallA Tryz.prog 244 [.one (.d (bZ l)),.one (.d (.fn f caps))] [] (.one (.d (.int .i64 (bS p l 0)))) []:=by
 refine enter ab Tryz.func244 rfl (by decide +kernel) rfl fun hok w0 σ0 φ0 M=>?_
 have h1:=hok.1.sl; clear hok; simp only [List.length_map] at h1; replace h1:=h1.1
 repeat' (first|(refine h6H ?_; first|refine ac ?_|refine ah ab J J J J J ?_|(refine h1H ?_; refine s_e aa J J J (aL J J J J (aN (by omega) (by omega))) ?_)|(refine h3H ?_; refine s_e aa J J J (ar J J J J J (by first|omega|((try simp only [a0A,a1A,a2A,a3A,a4A,a5A,a6A,a7A,a8A,a9A,au,av] at *); omega)) (aJ (by first|omega|((try simp only [a0A,a1A,a2A,a3A,a4A,a5A,a6A,a7A,a8A,a9A,au,av] at *); omega)))) ?_)|(refine h4H ?_; refine ag J J J J J J J J (hp _) J ?_))|(refine h7H ?_; first|refine al ?_|refine ae ?_|refine ay ?_|refine aw ?_|refine am ?_|refine aW ?_|refine aA J (fun h=>?_) (fun h=>?_)|refine bk 2 J [(0,_),(1,_),(7,_)] (q3Q J J J) (fun (k : Nat)=>[(8,.one (.d (.int .i64 k)))]) (fun (k : Nat)=>k≤l.length∧bS p l 0 = bS p (l.drop k) k) (fun (k : Nat)=>l.length - k) 0 (q1Q J) ?_ (fun k ⟨hk,hs⟩=>?_))|(show Exists _; refine Exists.intro (k + 1) ⟨?_,?_,(by (repeat' first|exact ap|refine af J ?_); done),(q1Q J),(q3Q J J J)⟩)|refine ak ?_|refine aC ?_|refine bd ?_|refine aG ?_|refine aP ?_|refine aX J ?_|refine ai (.inl J) J J ?_)
 all_goals (try (((simp_all [bS,aO,List.drop_eq_nil_of_le]) <;> first | omega | (rw [Bool.eq_iff_iff]; simp; omega) | grind); done))
theorem JN(f : FuncId)(caps : List D)(p : Attr→Bool)(hp : ∀ d : Attr,CallA Tryz.prog f ([.agg [.d (.str d.name),.d (.int .i64 d.type)]] ++ caps.map fun x=>.one (.d x)) [] (.one (.d (.bool (p d)))) [])(l : List Attr) :
  CallA Tryz.prog 250 [.one (.d (bT l)),.one (.d (.fn f caps))] [] (.one (.d (.int .i64 (bS p l 0)))) []:=by
 refine enter ab Tryz.func250 rfl (by decide +kernel) rfl fun hok w0 σ0 φ0 M=>?_
 have h1:=hok.1.sl; clear hok; simp only [List.length_map] at h1; replace h1:=h1.1
 repeat' (first|(refine h6H ?_; first|refine ac ?_|refine ah ab J J J J J ?_|(refine h1H ?_; refine s_e aa J J J (aL J J J J (aN (by omega) (by omega))) ?_)|(refine h3H ?_; refine s_e aa J J J (ar J J J J J (by first|omega|((try simp only [a0A,a1A,a2A,a3A,a4A,a5A,a6A,a7A,a8A,a9A,au,av] at *); omega)) (aJ (by first|omega|((try simp only [a0A,a1A,a2A,a3A,a4A,a5A,a6A,a7A,a8A,a9A,au,av] at *); omega)))) ?_)|(refine h4H ?_; refine ag J J J J J J J J (hp _) J ?_))|(refine h7H ?_; first|refine al ?_|refine ae ?_|refine ay ?_|refine aw ?_|refine am ?_|refine aW ?_|refine aA J (fun h=>?_) (fun h=>?_)|refine bk 2 J [(0,_),(1,_),(7,_)] (q3Q J J J) (fun (k : Nat)=>[(8,.one (.d (.int .i64 k)))]) (fun (k : Nat)=>k≤l.length∧bS p l 0 = bS p (l.drop k) k) (fun (k : Nat)=>l.length - k) 0 (q1Q J) ?_ (fun k ⟨hk,hs⟩=>?_))|(show Exists _; refine Exists.intro (k + 1) ⟨?_,?_,(by (repeat' first|exact ap|refine af J ?_); done),(q1Q J),(q3Q J J J)⟩)|refine ak ?_|refine aC ?_|refine bd ?_|refine aG ?_|refine aP ?_|refine aX J ?_|refine ai (.inl J) J J ?_)
 all_goals (try (((simp_all [bS,aO,List.drop_eq_nil_of_le]) <;> first | omega | (rw [Bool.eq_iff_iff]; simp; omega) | grind); done))
theorem JO(l : List Dim)(name : List UInt8) : CallA Tryz.prog 195 [.one (.d (bZ l)),.one (.d (.str name)),.one (.d (.fn 139 []))] [] (.one (.d (.int .i64 (bS (fun a : Dim=>a.name == name) l 0)))) []:=by
 refine enter ab Tryz.func195 rfl (by decide +kernel) rfl fun hok w0 σ0 φ0 M=>?_
 repeat' (first|(refine h6H ?_; first|refine ac ?_|refine ah ab J J J J J ?_|(refine h4H ?_; refine ag J J J J J J J J (JM _ _ _ (fun d=>JK _ name _ _) _) J ?_)|(refine bC ?_; first|refine aM 0 J J J J J J ?_|refine aM 1 J J J J J J ?_)|refine vj aa J J J J J ?_)|(refine h7H ?_; first|refine al ?_|refine ae ?_|refine am ?_)|refine ak ?_|refine ai (.inl J) J J ?_)
 all_goals (try (((simp_all [aO,List.drop_eq_nil_of_le]) <;> first | omega | (rw [Bool.eq_iff_iff]; simp; omega) | grind); done))
theorem JP(l : List Attr)(name : List UInt8) : CallA Tryz.prog 207 [.one (.d (bT l)),.one (.d (.str name)),.one (.d (.fn 151 []))] [] (.one (.d (.int .i64 (bS (fun a : Attr=>a.name == name) l 0)))) []:=by
 refine enter ab Tryz.func207 rfl (by decide +kernel) rfl fun hok w0 σ0 φ0 M=>?_
 repeat' (first|(refine h6H ?_; first|refine ac ?_|refine ah ab J J J J J ?_|(refine h4H ?_; refine ag J J J J J J J J (JN _ _ _ (fun d=>JL _ name _) _) J ?_)|(refine bC ?_; first|refine aM 0 J J J J J J ?_|refine aM 1 J J J J J J ?_)|refine vj aa J J J J J ?_)|(refine h7H ?_; first|refine al ?_|refine ae ?_|refine am ?_)|refine ak ?_|refine ai (.inl J) J J ?_)
 all_goals (try (((simp_all [aO,List.drop_eq_nil_of_le]) <;> first | omega | (rw [Bool.eq_iff_iff]; simp; omega) | grind); done))
theorem Dp(ds : List Dim)(ats : List Attr)(cs : D)(name : List UInt8) : CallA Tryz.prog 126 [.agg [.d (bZ ds),.d (bT ats),.d cs],.one (.d (.str name))] [] (.one (.d (.int .i64 (bS (fun a : Dim=>a.name == name) ds 0)))) []:=by
 refine enter ab Tryz.func126 rfl (by decide +kernel) rfl fun hok w0 σ0 φ0 M=>?_
 repeat' (first|(refine h6H ?_; first|refine ac ?_|refine ah ab J J J J J ?_|(refine h4H ?_; refine ag J J J J J J J J (JO _ _) J ?_)|(refine bC ?_; refine aM 0 J J J J J J ?_))|(refine h7H ?_; first|refine al ?_|refine ae ?_|refine am ?_)|refine ak ?_|refine ai (.inl J) J J ?_)
 all_goals (try (((simp_all [aO,List.drop_eq_nil_of_le]) <;> first | omega | (rw [Bool.eq_iff_iff]; simp; omega) | grind); done))
theorem Dq(ds : List Dim)(ats : List Attr)(cs : D)(name : List UInt8) : CallA Tryz.prog 148 [.agg [.d (bZ ds),.d (bT ats),.d cs],.one (.d (.str name))] [] (.one (.d (.int .i64 (bS (fun a : Attr=>a.name == name) ats 0)))) []:=by
 refine enter ab Tryz.func148 rfl (by decide +kernel) rfl fun hok w0 σ0 φ0 M=>?_
 repeat' (first|(refine h6H ?_; first|refine ac ?_|refine ah ab J J J J J ?_|(refine h4H ?_; refine ag J J J J J J J J (JP _ _) J ?_)|(refine bC ?_; refine aM 0 J J J J J J ?_))|(refine h7H ?_; first|refine al ?_|refine ae ?_|refine am ?_)|refine ak ?_|refine ai (.inl J) J J ?_)
 all_goals (try (((simp_all [aO,List.drop_eq_nil_of_le]) <;> first | omega | (rw [Bool.eq_iff_iff]; simp; omega) | grind); done))
end Go.Proofs.YtpejdgkaapnekaaGreat
namespace Go.Proofs.YtpejdgkaapnekaaGreat
open Go Go.Abs
attribute [local irreducible] ao OkC aU bg aV bA
set_option maxRecDepth 10000
theorem J3(f : FuncId)(caps : List D)(p : Scalar→Bool)(hp : ∀ d : Scalar,CallA Tryz.prog f ([du d] ++ caps.map fun x=>.one (.d x)) [] (.one (.d (.bool (p d)))) [])(l : List Scalar) :
  CallA Tryz.prog 263 [.one (.d (dn l)),.one (.d (.fn f caps))] [] (.one (.d (.int .i64 (bS p l 0)))) []:=by
 refine enter ab Tryz.func263 rfl (by decide +kernel) rfl fun hok w0 σ0 φ0 M=>?_
 have h1:=hok.1.sl; clear hok; simp only [List.length_map] at h1; replace h1:=h1.1
 repeat' (first|(refine h6H ?_; first|refine ac ?_|refine ah ab J J J J J ?_|(refine h1H ?_; refine s_e aa J J J (aL J J J J (aN (by omega) (by omega))) ?_)|(refine h3H ?_; refine s_e aa J J J (ar J J J J J (by first|omega|((try simp only [a0A,a1A,a2A,a3A,a4A,a5A,a6A,a7A,a8A,a9A,au,av] at *); omega)) (jQ (by first|omega|((try simp only [a0A,a1A,a2A,a3A,a4A,a5A,a6A,a7A,a8A,a9A,au,av] at *); omega)))) ?_)|(refine h4H ?_; refine ag J J J J J J J J (hp _) J ?_))|(refine h7H ?_; first|refine al ?_|refine ae ?_|refine ay ?_|refine aw ?_|refine am ?_|refine aW ?_|refine aA J (fun h=>?_) (fun h=>?_)|refine bk 2 J [(0,_),(1,_),(7,_)] (q3Q J J J) (fun (k : Nat)=>[(8,.one (.d (.int .i64 k)))]) (fun (k : Nat)=>k≤l.length∧bS p l 0 = bS p (l.drop k) k) (fun (k : Nat)=>l.length - k) 0 (q1Q J) ?_ (fun k ⟨hk,hs⟩=>?_))|(show Exists _; refine Exists.intro (k + 1) ⟨?_,?_,(by (repeat' first|exact ap|refine af J ?_); done),(q1Q J),(q3Q J J J)⟩)|refine ak ?_|refine aC ?_|refine bd ?_|refine aG ?_|refine aP ?_|refine aX J ?_|refine ai (.inl J) J J ?_)
 all_goals (try (((simp_all [bS,aO,List.drop_eq_nil_of_le]) <;> first | omega | (rw [Bool.eq_iff_iff]; simp; omega) | grind); done))
theorem yP{α : Type}{p : α→Bool} : ∀ {l : List α} {k : Nat},decide (0≤bS p l k) = l.any p
 | [],k=>by simp [bS]
 | x::r,k=>by
   have ih:=yP (p:=p) (l:=r) (k:=k + 1)
   simp only [bS,List.any_cons,← ih]
   by_cases hx : p x = true <;> simp [hx]
theorem J4(f : FuncId)(caps : List D)(p : Scalar→Bool)(hp : ∀ d : Scalar,CallA Tryz.prog f ([du d] ++ caps.map fun x=>.one (.d x)) [] (.one (.d (.bool (p d)))) [])(l : List Scalar) :
  CallA Tryz.prog 222 [.one (.d (dn l)),.one (.d (.fn f caps))] [] (.one (.d (.bool (l.any p)))) []:=by
 refine enter ab Tryz.func222 rfl (by decide +kernel) rfl fun hok w0 σ0 φ0 M=>?_
 clear hok
 repeat' (first|(refine h6H ?_; first|refine ac ?_|refine ah ab J J J J J ?_|(refine h4H ?_; refine ag J J J J J J J J (J3 f caps p hp _) J ?_))|(refine h7H ?_; first|refine al ?_|refine ae ?_|refine am ?_)|refine ak ?_|refine ai (.inl J) J J ?_)
 all_goals (rw [← yP (k:=0)])
def ia : Nat→Scalar→Bool
 | 0,_=>true
 | m + 1,s=>s.args.any (ia m)
theorem J5(m : Nat)(hm : m≤12)(hd : ∀ s z,z = (m : Int)→CallA Tryz.prog 172 [du s,.one (.d (.int .i64 z))] [] (.one (.d (.bool (ia m s)))) [])(s : Scalar)(y : Int)(hy : y = m + 1) :
  CallA Tryz.prog 223 [du s,.one (.d (.ptr [.int .i64 y]))] [] (.one (.d (.bool (ia m s)))) []:=by
 refine enter ab Tryz.func223 rfl (by decide +kernel) rfl fun hok w0 σ0 φ0 M=>?_
 clear hok
 repeat' (first|(refine h6H ?_; first|refine ac ?_|refine ah ab J J J J J ?_|(refine fY ?_; refine s_e aa J J J (bW J J J J (aN (by omega) (by omega))) ?_)|(refine h4H ?_; refine ag J J J J J J J J (hd _ _ (by omega)) J ?_)|(refine bC ?_; refine aM 0 J J J J J J ?_))|(refine h7H ?_; first|refine al ?_|refine ae ?_|refine am ?_)|refine ak ?_|refine ai (.inl J) J J ?_)
 all_goals (try (((simp_all [aO,List.drop_eq_nil_of_le]) <;> first | omega | (rw [Bool.eq_iff_iff]; simp; omega) | grind); done))
theorem GR : ∀ (m : Nat) (s : Scalar) (z : Int),z = m→m≤12→CallA Tryz.prog 172 [du s,.one (.d (.int .i64 z))] [] (.one (.d (.bool (ia m s)))) []
 | 0,s,z,hz,hm=>by
   subst hz
   refine enter ab Tryz.func172 rfl (by decide +kernel) rfl fun hok w0 σ0 φ0 M=>?_
   clear hok
   repeat' (first|(refine h6H ?_; first|refine ac ?_|refine ah ab J J J J J ?_|(refine h0H ?_; refine bH J J (by first|assumption|rfl) J J ?_)|(refine h2H ?_; refine s_e aa J J J (aF J J (by first|rfl|assumption) J) ?_)|(refine bC ?_; first|refine aM 0 J J J J J J ?_|refine aM 1 J J J J J J ?_))|(refine h7H ?_; first|refine al ?_|refine ae ?_|refine am ?_)|refine ak ?_|refine ai (.inl J) J J ?_)
   all_goals (try (((simp_all [ia,aO,List.drop_eq_nil_of_le]) <;> first | omega | (rw [Bool.eq_iff_iff]; simp; omega) | grind); done))
 | m + 1,s,z,hz,hm=>by
   have hz : z = m + 1:=by omega
   refine enter ab Tryz.func172 rfl (by decide +kernel) rfl fun hok w0 σ0 φ0 M=>?_
   clear hok
   repeat' (first|(refine h6H ?_; first|refine ac ?_|refine ah ab J J J J J ?_|(refine h0H ?_; first|refine aT J J (by first|assumption|rfl) ?_|refine bH J J (by first|assumption|rfl) J J ?_|refine bn J J J J (fun h=>?_) (fun h=>?_))|(refine h2H ?_; first|refine s_e aa J J J (aF J J (by first|rfl|assumption) J) ?_|refine s_e aa J J J (az J J (by first|rfl|assumption) J) ?_)|(refine h4H ?_; refine ag J J J J J J J J (J4 _ _ (ia m) (fun d=>J5 m (by omega) (fun s z hz=>GR m s z hz (by omega)) d _ hz) _) J ?_)|(refine bC ?_; first|refine aM 0 J J J J J J ?_|refine aM 1 J J J J J J ?_)|refine vj aa J J J J J ?_)|(refine h7H ?_; first|refine al ?_|refine ae ?_|refine am ?_)|refine ak ?_|refine ai (.inl J) J J ?_)
   all_goals (try (((simp_all [ia,aO,List.drop_eq_nil_of_le]) <;> first | omega | (rw [Bool.eq_iff_iff]; simp; omega) | grind); done))
end Go.Proofs.YtpejdgkaapnekaaGreat
namespace Go.Proofs.YtpejdgkaapnekaaGreat
open Go Go.Abs
attribute [local irreducible] ao OkC aU bg aV bA
set_option maxRecDepth 10000
def Hz(n : Int) : List D:=[.int .u32 n]
def dy(l : List Int) : D:=.sl 1 4 (l.map Hz)
def cU(z : Int) : List Int:=if z = 0 then [] else if z < 1000000000 then [z] else [z % 1000000000,z / 1000000000]
theorem Dv(l : List Int)(i : Nat)(h : ∀ x∈l,0≤x∧x < 1000000000) : CallA Tryz.prog 342 [.one (.d (dy l)),.one (.d (.int .i64 i))] [] (.one (.d (.int .u64 (at_ l i)))) []:=by
 refine enter ab Tryz.func342 rfl (by decide +kernel) rfl fun hok w0 σ0 φ0 M=>?_
 clear hok
 have hb : i < l.length→0≤at_ l i∧at_ l i < 1000000000:=fun hi=>h _ (ea hi)
 repeat' (first|(refine h6H ?_; first|refine ac ?_|refine ah ab J J J J J ?_|(refine fH ?_; refine dk ab J J J J ?_)|(refine h3H ?_; refine s_e aa J J J (ar J J J J J (by first|omega|((try simp only [a0A,a1A,a2A,a3A,a4A,a5A,a6A,a7A,a8A,a9A,au,av] at *); omega)) (aJ (by first|omega|((try simp only [a0A,a1A,a2A,a3A,a4A,a5A,a6A,a7A,a8A,a9A,au,av] at *); omega)))) ?_))|(refine h7H ?_; first|refine al ?_|refine ae ?_|refine aw ?_|refine am ?_|refine aA J (fun h=>?_) (fun h=>?_))|refine ak ?_|refine aC ?_|refine ai (.inl J) J J ?_)
 ·have hi : i < l.length:=by simpa using h
  have:=hb hi
  show AV.one (.d (.int .u64 (IntKind.u64.wrap (at_ l i)))) = _
  rw [cJ (by omega) (by omega)]
 ·have hi : l.length≤i:=by simpa using h
  simp [at_,List.getD_eq_getElem?_getD,hi]
theorem tf(z : Int)(h0 : 0≤z)(h1 : z < 1000000000000000000) : CallA Tryz.prog 268 [.one (.d (.int .u64 z))] [] (.one (.d (dy (cU z)))) []:=by
 refine enter ab Tryz.func268 rfl (by decide +kernel) rfl fun hok w0 σ0 φ0 M=>?_
 clear hok
 repeat' (first|(refine h6H ?_; first|refine ac ?_|refine ah ab J J J J J ?_|(refine tG ?_; refine s_e aa J J J (f8 J J J J (by omega) (by omega)) ?_)|(refine qW ?_; refine s_e aa J J J (fg J J J J (by omega) (by omega) (cJ (by omega) (by omega))) ?_)|(refine fH ?_; refine s_e aa J J J (c7 J J J J (iZ (by omega) (by omega))) ?_)|refine cj aa 0 J J J J J J ?_|refine cj aa 1 J J J J J J ?_|refine cj aa 2 J J J J J J ?_|refine cj aa 3 J J J J J J ?_|refine cj aa 4 J J J J J J ?_|refine cj aa 5 J J J J J J ?_)|(refine h7H ?_; first|refine dI (fT (dl:=[3]) J) (am ?_)|refine dI (fT (dl:=[1]) J) (am ?_)|refine dI (sQ (s:=2) (k:=1) (b:=4) J) (am ?_)|refine al ?_|refine ae ?_|refine ay ?_|refine aw ?_|refine aW ?_|refine aA J (fun h=>?_) (fun h=>?_)|refine oU 2 J 3 ?_)|refine ak ?_|refine bd ?_|refine aG ?_|refine aX J ?_|refine ai (.inl J) J J ?_)
 all_goals (try simp only [decide_eq_true_eq,decide_eq_false_iff_not] at *)
 ·omega
 ·have e : cU z = [z % 1000000000,z / 1000000000 % 1000000000]:=by
   have : z / 1000000000 % 1000000000 = z / 1000000000:=by omega
   rw [this]; unfold cU; rw [if_neg (by omega),if_neg (by omega)]
  rw [e]; rfl
 ·have e : cU z = [z % 1000000000]:=by
   have : z % 1000000000 = z:=by omega
   rw [this]; unfold cU; rw [if_neg (by omega),if_pos (by omega)]
  rw [e]; rfl
 ·have e : cU z = []:=by unfold cU; rw [if_pos (by omega)]
  rw [e]; rfl
end Go.Proofs.YtpejdgkaapnekaaGreat
namespace Go.Proofs.YtpejdgkaapnekaaGreat
open Go Go.Abs
attribute [local irreducible] ao OkC aU bg aV bA
set_option maxRecDepth 10000
theorem Dt{z : Int}(h0 : 0≤z)(h1 : z < 1000000000000000000) : ∀ x∈cU z,0≤x∧x < 1000000000:=by
 intro x hx
 unfold cU at hx
 split at hx
 ·simp at hx
 ·split at hx
  ·simp at hx; omega
  ·simp at hx; omega
theorem yL{z : Int}(h0 : 0≤z)(h1 : z < 1000000000000000000) : at_ (cU z) 0 + 1000000000 * at_ (cU z) 1 = z∧0≤at_ (cU z) 0∧at_ (cU z) 0 < 1000000000∧0≤at_ (cU z) 1∧at_ (cU z) 1 < 1000000000:=by
 unfold cU
 split
 ·rename_i h; subst h; exact ⟨rfl,by decide,by decide,by decide,by decide⟩
 ·split
  ·show z + 1000000000 * 0 = z∧0≤z∧z < 1000000000∧(0 : Int)≤0∧(0 : Int) < 1000000000
   omega
  ·show z % 1000000000 + 1000000000 * (z / 1000000000) = z∧0≤z % 1000000000∧z % 1000000000 < 1000000000∧0≤z / 1000000000∧z / 1000000000 < 1000000000
   omega
theorem qV{z : Int} : (cU z).length≤2:=by
 unfold cU
 split
 ·simp
 ·split <;> simp
theorem Du{z : Int} : 0 < (cU z).length↔z≠0:=by
 unfold cU
 split
 ·simp_all
 ·split <;> simp_all
theorem GC(z : Int)(h0 : 0≤z)(h1 : z < 1000000000000000000) : CallA Tryz.prog 343 [.one (.d (dy (cU z)))] [] (.one (.d (.int .u64 z))) []:=by
 refine enter ab Tryz.func343 rfl (by decide +kernel) rfl fun hok w0 σ0 φ0 M=>?_
 clear hok
 have hm:=Dt h0 h1
 obtain ⟨he,ha,hb,hc,hd⟩:=yL h0 h1
 repeat' (first|(refine h6H ?_; first|refine ac ?_|refine ah ab J J J J J ?_|(refine h1H ?_; refine s_e aa J J J (aL J J J J (cJ (by omega) (by omega))) ?_)|(refine s9 ?_; refine s_e aa J J J (lM J J J J (cJ (by omega) (by omega))) ?_)|(refine h4H ?_; first|refine ag J J J J J J J J (Dv _ 0 hm) J ?_|refine ag J J J J J J J J (Dv _ 1 hm) J ?_))|(refine h7H ?_; first|refine al ?_|refine ae ?_|refine am ?_)|refine ak ?_|refine ai (.inl J) J J ?_)
 all_goals (rw [he])
theorem Dx{n : Int}(h0 : -1099511627776≤n)(h : n < 0) : IntKind.u64.wrap (0 - IntKind.u64.wrap n) = -n:=by
 simp only [IntKind.wrap,IntKind.signed,IntKind.bits,Bool.false_and,Bool.false_eq_true,if_false]
 omega
theorem GD(n : Int)(h0 : -1099511627776≤n)(h1 : n≤1099511627776) : CallA Tryz.prog 267 [.one (.d (.int .i64 n))] [] (.one (.d (dy (cU (max n (-n)))))) []:=by
 refine enter ab Tryz.func267 rfl (by decide +kernel) rfl fun hok w0 σ0 φ0 M=>?_
 clear hok
 repeat' (first|(refine h6H ?_; first|refine ac ?_|refine ah ab J J J J J ?_|(refine fY ?_; refine dk ab J J J J ?_)|(refine fH ?_; first|refine s_e aa J J J (c7 J J J J (cJ (by first|omega|((try simp only [a0A,a1A,a2A,a3A,a4A,a5A,a6A,a7A,a8A,a9A,au,av] at *); omega)) (by first|omega|((try simp only [a0A,a1A,a2A,a3A,a4A,a5A,a6A,a7A,a8A,a9A,au,av] at *); omega)))) ?_|refine dk ab J J J J ?_))|(refine h7H ?_; first|refine al ?_|refine ae ?_|refine aw ?_|refine aA J (fun h=>?_) (fun h=>?_))|refine ak ?_)
 ·have hn : n < 0:=by simpa using h
  rw [Dx h0 hn]
  refine ba 16 rfl rfl rfl rfl rfl rfl rfl rfl (tf (-n) (by omega) (by omega)) rfl rfl (rav':=.one (.d (dy (cU (-n))))) rfl ?_
  repeat' (first|(refine h6H ?_; first|refine ac ?_|refine ah ab J J J J J ?_)|(refine h7H ?_; refine am ?_)|refine ak ?_|refine aC ?_|refine ai (.inl J) J J ?_)
  rw [show max n (-n) = -n by omega]
 ·have hn : 0≤n:=by simpa using h
  refine ba 16 rfl rfl rfl rfl rfl rfl rfl rfl (tf n (by omega) (by omega)) rfl rfl (rav':=.one (.d (dy (cU n)))) rfl ?_
  repeat' (first|(refine h6H ?_; first|refine ac ?_|refine ah ab J J J J J ?_)|(refine h7H ?_; refine am ?_)|refine ak ?_|refine ai (.inl J) J J ?_)
  rw [show max n (-n) = n by omega]
end Go.Proofs.YtpejdgkaapnekaaGreat
namespace Go.Proofs.YtpejdgkaapnekaaGreat
open Go Go.Abs
attribute [local irreducible] ao OkC aU bg aV bA
set_option maxRecDepth 10000
theorem CG{x y : Int}(hx : 0≤x)(hx1 : x < 1000000000000000000)(hy : 0 < y) : 0≤x / y∧x / y < 1000000000000000000:=by
 refine ⟨Int.ediv_nonneg hx (by omega),?_⟩
 have h1:=Int.ediv_le_self y hx
 omega
theorem uV{x y : Int}(hx : 0≤x)(hx1 : x < 1000000000000000000)(hy : 0 < y) : 0≤x % y∧x % y < 1000000000000000000:=by
 refine ⟨Int.emod_nonneg x (by omega),?_⟩
 have:=gW hx hy
 omega
theorem GG(x y : Int)(hx : 0≤x)(hx1 : x < 1000000000000000000)(hy : 0 < y)(hy1 : y < 1000000000000000000) : CallA Tryz.prog 287 [.one (.d (dy (cU x))),.one (.d (dy (cU y)))] [] (.tup [(false,[.d (dy (cU (x / y)))]),(false,[.d (dy (cU (x % y)))])]) []:=by
 refine enter ab Tryz.func287 rfl (by decide +kernel) rfl fun hok w0 σ0 φ0 M=>?_
 clear hok
 have hl1:=qV (z:=x); have hl2:=qV (z:=y)
 have hd:=CG hx hx1 hy; have hm:=uV hx hx1 hy
 repeat' (first|(refine h6H ?_; first|refine ac ?_|refine ah ab J J J J J ?_|(refine h0H ?_; first|refine aT J J (by first|assumption|rfl) ?_|refine bH J J (by first|assumption|rfl) J J ?_|refine bn J J J J (fun h=>?_) (fun h=>?_))|(refine tG ?_; refine s_e aa J J J (f8 J J J J (by omega) (by omega)) ?_)|(refine qW ?_; refine s_e aa J J J (fg J J J J (by omega) (by omega) (cJ (by omega) (by omega))) ?_)|(refine h2H ?_; first|refine s_e aa J J J (aF J J (by first|rfl|assumption) J) ?_|refine s_e aa J J J (az J J (by first|rfl|assumption) J) ?_)|(refine h4H ?_; first|refine ag J J J J J J J J (GC x (by omega) (by omega)) J ?_|refine ag J J J J J J J J (GC y (by omega) (by omega)) J ?_|refine ba 16 J J J J J J J J (tf (x / y) (by omega) (by omega)) J J J ?_|refine ba 16 J J J J J J J J (tf (x % y) (by omega) (by omega)) J J J ?_))|(refine h7H ?_; first|refine al ?_|refine ae ?_|refine aw ?_|refine am ?_|refine bm J ?_|refine aA J (fun h=>?_) (fun h=>?_))|refine ak ?_|refine aC ?_|refine ai (.inl J) J J ?_)
 ·rfl
 ·exfalso; simp at h; omega
 ·exfalso; simp at h; omega
theorem uW{z : Int} : (cU z).length = 0↔z = 0:=by
 have:=Du (z:=z)
 omega
theorem Kk(x y : Int)(hx : 0≤x)(hx1 : x < 1000000000000000000)(hy : 0≤y)(hy1 : y < 1000000000000000000) : CallA Tryz.prog 266 [.one (.d (dy (cU x))),.one (.d (dy (cU y)))] [] (.one (.d (dy (cU (Int.gcd x y))))) []:=by
 refine enter ab Tryz.func266 rfl (by decide +kernel) rfl fun hok w0 σ0 φ0 M=>?_
 clear hok
 repeat' (first|(refine h6H ?_; first|refine ac ?_|refine ah ab J J J J J ?_|(refine h4H ?_; refine ba 16 J J J J J J J J (GG p.1 p.2 (by first|omega|((try simp only [a0A,a1A,a2A,a3A,a4A,a5A,a6A,a7A,a8A,a9A,au,av] at *); omega)) (by first|omega|((try simp only [a0A,a1A,a2A,a3A,a4A,a5A,a6A,a7A,a8A,a9A,au,av] at *); omega)) (by first|omega|((try simp only [a0A,a1A,a2A,a3A,a4A,a5A,a6A,a7A,a8A,a9A,au,av] at *); omega)) (by first|omega|((try simp only [a0A,a1A,a2A,a3A,a4A,a5A,a6A,a7A,a8A,a9A,au,av] at *); omega))) J J J ?_))|(refine h7H ?_; first|refine al ?_|refine ae ?_|refine ay ?_|refine aw ?_|refine am ?_|refine aW ?_|refine aA J (fun h=>?_) (fun h=>?_)|refine bk 1 J [] ap (fun (p : Int×Int)=>[(0,.one (.d (dy (cU p.1)))),(1,.one (.d (dy (cU p.2))))]) (fun (p : Int×Int)=>(0≤p.1∧p.1 < 1000000000000000000)∧(0≤p.2∧p.2 < 1000000000000000000)∧((cU p.2).length = 0↔p.2 = 0)∧Int.gcd p.1 p.2 = Int.gcd x y) (fun (p : Int×Int)=>p.2.toNat) (x,y) (q2Q J J) ?_ (fun p ⟨h1,h2,h3,h4⟩=>?_))|(show Exists _; refine Exists.intro ((p.2,p.1 % p.2)) ⟨?_,?_,(by (repeat' first|exact ap|refine af J ?_); done),(q2Q J J),ap⟩)|refine ak ?_|refine bd ?_|refine aG ?_|refine aX J ?_|refine ai (.inl J) J J ?_)
 ·exact ⟨⟨hx,hx1⟩,⟨hy,hy1⟩,uW,rfl⟩
 ·have hp : p.2≠0:=by
   intro e
   have:=h3.2 e
   simp [this] at h
  refine ⟨h2,uV h1.1 h1.2 (by omega),uW,?_⟩
  show Int.gcd p.2 (p.1 % p.2) = _
  rw [← h4]
  obtain ⟨a,ha⟩:=Int.eq_ofNat_of_zero_le h1.1
  obtain ⟨b,hb⟩:=Int.eq_ofNat_of_zero_le h2.1
  rw [ha,hb]
  show Nat.gcd b (a % b) = Nat.gcd a b
  rw [Nat.gcd_comm,← Nat.gcd_rec,Nat.gcd_comm]
 ·have hp : p.2≠0:=by
   intro e
   have:=h3.2 e
   simp [this] at h
  have h5:=Int.emod_lt_of_pos p.1 (show 0 < p.2 by omega)
  have h6:=Int.emod_nonneg p.1 hp
  show (p.1 % p.2).toNat < p.2.toNat
  omega
 ·have hp : p.2 = 0:=h3.1 (by simpa using h)
  rw [hp] at h4
  have : ((Int.gcd p.1 0 : Nat) : Int) = p.1:=by
   rw [Int.gcd_zero_right]; omega
  rw [← h4,this]
end Go.Proofs.YtpejdgkaapnekaaGreat
namespace Go.Proofs.YtpejdgkaapnekaaGreat
open Go Go.Abs
attribute [local irreducible] ao OkC aU bg aV bA
set_option maxRecDepth 10000
def tt(l : List Int) : Int:=if (l.length : Int) < 1 then -1 else if 1 < (l.length : Int) then 1 else if at_ l 0 < 1 then -1 else if 1 < at_ l 0 then 1 else 0
theorem J9(l : List Int) : CallA Tryz.prog 265 [.one (.d (dy l)),.one (.d (dy [1]))] [] (.one (.d (.int .i64 (tt l)))) []:=by
 refine enter ab Tryz.func265 rfl (by decide +kernel) rfl fun hok w0 σ0 φ0 M=>?_
 have h1:=hok.1.sl.1; clear hok; simp only [List.length_map] at h1
 repeat' (first|(refine h6H ?_; first|refine ac ?_|refine ah ab J J J J J ?_|(refine fY ?_; refine s_e aa J J J (bW J J J J (aN (by first|omega|((try simp only [a0A,a1A,a2A,a3A,a4A,a5A,a6A,a7A,a8A,a9A,au,av] at *); omega)) (by first|omega|((try simp only [a0A,a1A,a2A,a3A,a4A,a5A,a6A,a7A,a8A,a9A,au,av] at *); omega)))) ?_))|(refine h7H ?_; first|refine al ?_|refine ae ?_|refine ay ?_|refine aw ?_|refine am ?_|refine aW ?_|refine aA J (fun h=>?_) (fun h=>?_)|refine aR progOk.mo ?_|refine oU 6 J 3 ?_)|(refine bP ?_; first|refine bG (by kernel_rfl) ?_|refine d_e aa J J J (aK J J) ?_|(refine h8H ?_; refine d_e aa J J J (ar J J J J J (by first|omega|((try simp only [a0A,a1A,a2A,a3A,a4A,a5A,a6A,a7A,a8A,a9A,au,av] at *); omega)) (aJ (by first|omega|((try simp only [a0A,a1A,a2A,a3A,a4A,a5A,a6A,a7A,a8A,a9A,au,av] at *); omega)))) ?_))|refine ak ?_|refine aC ?_|refine bd ?_|refine aG ?_|refine aP ?_|refine aX J ?_|refine ai (.inl J) J J ?_)
 all_goals (try (((simp_all [tt,aO,List.drop_eq_nil_of_le]) <;> first | omega | (rw [Bool.eq_iff_iff]; simp; omega) | grind); done))
 all_goals (try simp only [a0A,a1A,au,a5A,nI,nJ] at *)
 all_goals (have hl : l.length = 1:=by omega)
 all_goals (obtain ⟨a,rfl⟩:=List.length_eq_one_iff.1 hl)
 all_goals (simp [tt,at_] at *; try omega)
end Go.Proofs.YtpejdgkaapnekaaGreat
namespace Go.Proofs.YtpejdgkaapnekaaGreat
open Go Go.Abs
attribute [local irreducible] ao OkC aU bg aV bA
set_option maxRecDepth 10000
theorem wN{g : Int}(h0 : 0≤g) : (tt (cU g) == 0) = (g == 1):=by
 unfold cU
 split
 ·rename_i h; subst h; rfl
 ·split
  ·rename_i h1 h2
   simp [tt,at_]
   rw [Bool.eq_iff_iff]; simp
   split <;> (try split) <;> omega
  ·rename_i h1 h2
   have : (g == 1) = false:=by simp; omega
   rw [this]; simp [tt]
theorem BW{n d : Int}(hd : 1≤d) : Int.gcd (max n (-n)) (max d (-d)) = Nat.gcd n.natAbs d.toNat:=by
 unfold Int.gcd
 congr 1 <;> omega
theorem Fo : CallA Tryz.prog 268 [.one (.d (.int .u64 1))] [] (.one (.d (dy [1]))) []:=tf 1 (by omega) (by omega)
theorem zN(k' n d : Int)(s : List UInt8) : CallA Tryz.prog 227 [.agg [.d (.int .i64 k'),.d (.int .i64 n),.d (.int .i64 d),.d (.str s)]] [] (.one (.d (.int .i64 (if dU k' n d s then 0 else 2)))) []:=by
 refine enter ab Tryz.func227 rfl (by decide +kernel) rfl fun hok w0 σ0 φ0 M=>?_
 have hl:=(hok.1 (.d (.str s)) (by simp)); replace hl:=OkD.str hl; clear hok
 repeat' (first|(refine h6H ?_; first|refine ac ?_|refine ah ab J J J J J ?_|(refine h0H ?_; first|refine aT J J (by first|assumption|rfl) ?_|refine bH J J (by first|assumption|rfl) J J ?_|refine bn J J J J (fun h=>?_) (fun h=>?_))|(refine h1H ?_; refine s_e aa J J J (aL J J J J (aN (by omega) (by omega))) ?_)|(refine h2H ?_; first|refine s_e aa J J J (aF J J (by first|rfl|assumption) J) ?_|refine s_e aa J J J (az J J (by first|rfl|assumption) J) ?_)|(refine GX ?_; refine s_e aa J J J (pd J J J J (by first|omega|((try simp only [a0A,a1A,a2A,a3A,a4A,a5A,a6A,a7A,a8A,a9A,au,av] at *); omega)) (ix (by first|omega|((try simp only [a0A,a1A,a2A,a3A,a4A,a5A,a6A,a7A,a8A,a9A,au,av] at *); omega)))) ?_)|(refine bC ?_; refine aM 0 J J J J J J ?_))|(refine h7H ?_; first|refine al ?_|refine ae ?_|refine ay ?_|refine aw ?_|refine am ?_|refine aW ?_|refine bm J ?_|refine aA J (fun h=>?_) (fun h=>?_)|refine aR progOk.mo ?_|refine bk 12 J [(1,_)] (q1Q J) (fun (p : Nat×Bool)=>[(4,.one (.d (.int .i64 (p.1 : Int)))),(3,.one (.d (.bool p.2)))]) (fun (p : Nat×Bool)=>p.1≤s.length∧p.2 = ((n == 0 && (d == 0 && decide ((s.length : Int)≤16))) && (s.take p.1).all d9)) (fun (p : Nat×Bool)=>s.length - p.1) (0,_) (q2Q J J) ?_ (fun p ⟨hk,hp⟩=>?_))|(refine bP ?_; first|refine bG (by kernel_rfl) ?_|refine d_e aa J J J (aK J J) ?_|(refine qO ?_; first|refine jH J J (by first|assumption|rfl) ?_|refine nv J J (by first|assumption|rfl) J J ?_|refine kV J J (fun h=>?_) (fun h=>?_))|(refine qP ?_; first|refine d_e aa J J J (aF J J (by first|rfl|assumption) J) ?_|refine d_e aa J J J (az J J (by first|rfl|assumption) J) ?_)|(refine h9H ?_; first|refine d_l J J (bj J J J J J J (J9 _) J) ?_|refine b6 16 J J J J J J J J (GD _ (by first|omega|((try simp only [a0A,a1A,a2A,a3A,a4A,a5A,a6A,a7A,a8A,a9A,au,av] at *); omega)) (by first|omega|((try simp only [a0A,a1A,a2A,a3A,a4A,a5A,a6A,a7A,a8A,a9A,au,av] at *); omega))) J J ?_|refine b6 16 J J J J J J J J (Kk _ _ (by first|omega|((try simp only [a0A,a1A,a2A,a3A,a4A,a5A,a6A,a7A,a8A,a9A,au,av] at *); omega)) (by first|omega|((try simp only [a0A,a1A,a2A,a3A,a4A,a5A,a6A,a7A,a8A,a9A,au,av] at *); omega)) (by first|omega|((try simp only [a0A,a1A,a2A,a3A,a4A,a5A,a6A,a7A,a8A,a9A,au,av] at *); omega)) (by first|omega|((try simp only [a0A,a1A,a2A,a3A,a4A,a5A,a6A,a7A,a8A,a9A,au,av] at *); omega))) J J ?_|refine b6 16 J J J J J J J J (Fo) J J ?_))|(show Exists _; refine Exists.intro ((p.1 + 1,_)) ⟨?_,?_,(by (repeat' first|exact ap|refine af J ?_); done),(q2Q J J),(q1Q J)⟩)|refine ak ?_|refine aC ?_|refine bd ?_|refine aG ?_|refine aX J ?_|refine ai (.inl J) J J ?_)
 all_goals (try (((simp_all [dU,mH,gl,d9,aO,List.drop_eq_nil_of_le]) <;> first | omega | (rw [Bool.eq_iff_iff]; simp; omega) | grind); done))
 ·rename_i a1 a2 a3 a4 a5 a6 a7 a8
  rw [BW (by simpa using a4),wN (by omega)] at h
  simp_all [dU]
 ·rename_i a1 a2 a3 a4 a5 a6 a7 a8
  rw [BW (by simpa using a4),wN (by omega)] at h
  simp_all [dU]
 ·refine ⟨Nat.zero_le _,?_⟩
  change decide ((s.length : Int)≤16) = _
  simp_all
 ·rename_i a1 a2 a3 a4 a5 a6 a7 a8
  have hk' : p.1 < s.length:=by simpa using a7
  refine ⟨by show p.1 + 1≤_; omega,?_⟩
  change decide (((at_ s p.1).toNat : Int)≤126) = (n == 0 && (d == 0 && decide ((s.length : Int)≤16)) && (List.take (p.1 + 1) s).all d9)
  rw [gl hk',List.all_append,← Bool.and_assoc,← hp,a8]
  have h2 : (32 : Int)≤((at_ s p.1).toNat : Int):=by simpa using h
  have h' : 32≤(at_ s p.1).toNat:=by omega
  simp [d9,h']
  try omega
end Go.Proofs.YtpejdgkaapnekaaGreat
namespace Go.Proofs.YtpejdgkaapnekaaGreat
open Go Go.Abs
attribute [local irreducible] ao OkC aU bg aV bA
set_option maxRecDepth 10000
theorem I0(k n d : Int)(s : List UInt8)(t : Int) : CallA Tryz.prog 199 [.agg [.d (.int .i64 k),.d (.int .i64 n),.d (.int .i64 d),.d (.str s)],.one (.d (.int .i64 t))] [] (.one (.d (.bool (iD k n d s t)))) []:=by
 refine enter ab Tryz.func199 rfl (by decide +kernel) rfl fun hok w0 σ0 φ0 M=>?_
 clear hok
 repeat' (first|(refine h6H ?_; first|refine ac ?_|refine ah ab J J J J J ?_|(refine h0H ?_; first|refine aT J J (by first|assumption|rfl) ?_|refine bH J J (by first|assumption|rfl) J J ?_|refine mK J J J J ?_|refine bn J J J J (fun h=>?_) (fun h=>?_))|(refine h2H ?_; first|refine s_e aa J J J (aF J J (by first|rfl|assumption) J) ?_|refine s_e aa J J J (az J J (by first|rfl|assumption) J) ?_)|(refine h4H ?_; refine ag J J J J J J J J (zN _ _ _ _) J ?_)|(refine bC ?_; refine aM 0 J J J J J J ?_))|(refine h7H ?_; first|refine al ?_|refine ae ?_|refine ay ?_|refine aw ?_|refine am ?_|refine bc J ?_|refine aA J (fun h=>?_) (fun h=>?_))|refine ak ?_|refine aC ?_|refine aG ?_|refine aP ?_|refine ai (.inl J) J J ?_)
 all_goals (try (((simp_all [iD,aO,List.drop_eq_nil_of_le]) <;> first | omega | (rw [Bool.eq_iff_iff]; simp; omega) | grind); done))
 all_goals (by_cases hk : k = 3 <;> simp_all [iD,dU])
end Go.Proofs.YtpejdgkaapnekaaGreat
