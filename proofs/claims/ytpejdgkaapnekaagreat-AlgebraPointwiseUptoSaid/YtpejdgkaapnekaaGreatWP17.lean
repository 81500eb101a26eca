import Derived.Test.YtpejdgkaapnekaaGreatRows
import Derived.Deep.Slices
import Derived.Deep.DeepHandedRow
import Derived.ReadAgain
import Derived.MapPlaces
import Derived.WalkKit
import Derived.ProofKit
import Derived.OpenShut
import Derived.JoinedCond
import Derived.Test.YtpejdgkaapnekaaGreatWP16
import Derived.Test.YtpejdgkaapnekaaGreatWP15
set_option linter.unusedVariables false
set_option linter.unusedSimpArgs false
set_option linter.unnecessarySimpa false
set_option maxHeartbeats 1000000
namespace Go.Proofs.YtpejdgkaapnekaaGreat
open Go Go.Abs
open Go.ChangeShapes Go.WideShapes Go.ChangeAt Go.RowKit
section
variable {H : Type} {en : TypeId×Value→H} {W : World}
theorem si(d : DataW H) : 1≤Rows.uptoBulk d:=by
 cases d with
 | lit l=>cases l <;> simp [Rows.uptoBulk]
 | _=>simp [Rows.uptoBulk]
theorem oQ{d : DataW H} : ∀ {l : List (DataW H)},d∈l→Rows.uptoBulk d≤Rows.uptoBulkAll l
 | [],h=>by simp at h
 | x::r,h=>by
   simp only [Rows.uptoBulkAll]
   rcases List.mem_cons.1 h with rfl | h
   ·omega
   ·have:=oQ h; omega
theorem yF : ∀ (l : List (DataW H)),l.length≤Rows.uptoBulkAll l
 | []=>by simp [Rows.uptoBulkAll]
 | x::r=>by have:=si x; have:=yF r; simp only [Rows.uptoBulkAll,List.length_cons]; omega
def sg(W : World) : Sig:=fun b=>match W.heap[b]? with | some (.cells cs _ _)=>some cs | _=>none
theorem AT{b : Nat}{cs : Array Value}(h : sg W b = some cs) : ∃ t f,W.heap[b]? = some (.cells cs t f):=by
 unfold sg at h
 split at h
 ·rename_i c t f hh; cases h; exact ⟨t,f,hh⟩
 ·cases h
theorem Jq(φ : Pl) : HInv (sg W) φ [] W:=⟨fun b cs h=>AT h,fun i e h=>by simp [Abs.look] at h,fun i i' e e' p p' h=>by simp [Abs.look] at h⟩
def Rd(en : TypeId×Value→H)(W : World)(N : Nat)(t : TypeId){α : Type}(f : α→List D)(Q : α→Prop) : Prop :=
 ∀ (fuel : Nat) (cs : List Value) (x : DataW H×List MemPlace),DataW.trod en Tryz.prog W 0 (fun _=>true) true fuel t cs = some x→Rows.uptoBulk x.1≤N→∃ a : α,Q a∧All2 (Rep (sg W)) (f a) cs
def yes{α : Type}(_ : α) : Prop:=True
theorem Rd.mono{N M : Nat}{t : TypeId}{α : Type}{f : α→List D}{Q : α→Prop}(h : Rd en W N t f Q)(hm : M≤N) : Rd en W M t f Q:=fun fuel cs x hx hb=>h fuel cs x hx (by omega)
theorem gX{N : Nat}{t : TypeId}(ht : Tryz.prog.underlying t = some (.int .i64)) : Rd en W N t (fun n : Int=>[.int .i64 n]) yes:=by
 intro fuel cs x h _
 obtain ⟨n,rfl,_,hw⟩:=DataW.trod_int ht h
 have hw':=bounds_i64 hw
 refine ⟨n,trivial,.int ?_,trivial⟩
 simp only [inR,IntKind.min,IntKind.max,IntKind.signed,IntKind.bits,if_true]
 omega
theorem tn{N : Nat}{t : TypeId}(hN : N≤1048576)(ht : Tryz.prog.underlying t = some .string) : Rd en W N t (fun s : List UInt8=>[.str s]) yes:=by
 intro fuel cs x h hb
 obtain ⟨s,rfl,rfl,_⟩:=DataW.trod_string ht h
 simp only [Rows.uptoBulk] at hb
 have:=Rep.str (σ:=sg W) (s:=s.data.toList) (by omega)
 refine ⟨s.data.toList,trivial,?_,trivial⟩
 simpa using this
def Co{α : Type}(N : Nat)(Q : α→Prop)(l : List α) : Prop:=l.length≤N∧∀ x∈l,Q x
theorem fT{N k b : Nat}{t e : TypeId}{α : Type}[Inhabited α]{f : α→List D}{Q : α→Prop}(hN : N≤1048575)(hb : b≤1000)(hk : 0 < k)(ht : Tryz.prog.underlying t = some (.slice e))(hc : Tryz.prog.cellsOf e = k)(he : Rd en W N e f Q) : Rd en W (N + 1) t (fun l : List α=>[.sl k b (l.map f)]) (Co N Q):=by
 intro fuel cs x h hbk
 rcases Deep.open_slice ht h with ⟨rfl,rfl⟩ | ⟨a,len,cap,m,n,Dd,Pl,rfl,_,hl,_,hm,rfl,hel⟩
 ·refine ⟨[],⟨by simp,by simp⟩,?_,trivial⟩
  exact .sl (fun _ _=>undef) (by simp) (by simp) (by simp) (by simp) (by simp) (by simp)
 ·simp only [if_true] at hm
  subst hm
  rw [hc] at hel
  simp only [Rows.uptoBulk] at hbk
  have hlen : len≤N:=by
   have:=yF ((List.range len).map Dd)
   simp only [List.length_map,List.length_range] at this
   omega
  have hpart : ∀ i,i < len→Rows.uptoBulk (Dd i)≤N:=by
   intro i hi
   have:=oQ (d:=Dd i) (l:=(List.range len).map Dd) (List.mem_map.2 ⟨i,List.mem_range.2 hi,rfl⟩)
   omega
  obtain ⟨g,hg⟩:=Deep.choose_lt (n:=len) (p:=fun i (y : α)=>Q y∧∃ cs',W.cells? 0 (a.add (i * k)) k = some cs'∧All2 (Rep (sg W)) (f y) cs') (fun i hi=>by
   obtain ⟨cs',h1,h2⟩:=hel i (by omega)
   obtain ⟨y,hq,hy⟩:=he _ _ _ h2 (hpart i hi)
   exact ⟨y,hq,cs',h1,hy⟩)
  have hcell : ∀ i,i < len→∀ j,j < k→∃ v,W.cell? ((a.add (i * k)).add j) = some v∧∀ d,(f (g i))[j]? = some d→Rep (sg W) d v:=by
   intro i hi j hj
   obtain ⟨_,cs',h1,h2⟩:=hg i hi
   obtain ⟨_,h3,h4⟩:=World.cells?_some h1
   have h5 : cs'[j]? = some (cs'[j]'(by omega)):=List.getElem?_eq_getElem (by omega)
   refine ⟨_,(h4 j hj).trans h5,fun d hd=>?_⟩
   obtain ⟨v,hv,hr⟩:=h2.get hd
   rw [h5] at hv; cases hv; exact hr
  have hfl : ∀ i,i < len→(f (g i)).length = k:=by
   intro i hi
   obtain ⟨_,cs',h1,h2⟩:=hg i hi
   rw [h2.length]; exact (World.cells?_some h1).2.1
  have hadd : ∀ i j,i < len→j < k→a.spot = none→((a.add (i * k)).add j) = ⟨a.block,a.off + i * k + j,none⟩:=by
   intro i j _ _ hs
   obtain ⟨B,o,sp⟩:=a
   simp only at hs
   subst hs
   by_cases h1 : i * k = 0 <;> by_cases h2 : j = 0 <;> simp [Addr.add,h1,h2]
  have hA : 0 < len→∃ cells : Array Value,a.spot = none∧sg W a.block = some cells:=by
   intro h0
   obtain ⟨v,hv,_⟩:=hcell 0 h0 0 hk
   have e0 : ((a.add (0 * k)).add 0) = a:=by simp [Addr.add]
   rw [e0] at hv
   unfold World.cell? at hv
   unfold sg
   split at hv
   ·rename_i c t2 f2 hh
    rw [hh]
    split at hv
    ·cases hv
    ·rename_i hs
     exact ⟨c,by simpa using hs,rfl⟩
   ·cases hv
  refine ⟨(List.range len).map g,⟨by simpa using hlen,fun y hy=>?_⟩,?_,trivial⟩
  ·obtain ⟨i,hi,rfl⟩:=List.mem_map.1 hy
   exact (hg i (List.mem_range.1 hi)).1
  have hll : (((List.range len).map g).map f).length = len:=by simp
  have key : Rep (sg W) (.sl k b (((List.range len).map g).map f)) (.slice (some a) (((List.range len).map g).map f).length m):=by
   refine .sl (fun i j=>(W.cell? ((a.add (i * k)).add j)).getD undef) (by rw [hll]; exact hl) (by rw [hll]; omega) (by
    rw [hll]
    have : len * b≤1048576 * 1000:=Nat.mul_le_mul (by omega) hb
    omega) (fun x hx=>?_) (fun h0=>?_) (fun i j x d hx hd=>?_)
   ·simp only [List.mem_map,List.mem_range] at hx
    obtain ⟨y,⟨i,hi,rfl⟩,rfl⟩:=hx
    exact hfl i hi
   ·rw [hll] at h0
    obtain ⟨cells,hs,hsg⟩:=hA h0
    refine ⟨a.block,a.off,cells,?_,hsg,fun i j hi hj=>?_⟩
    ·obtain ⟨B,o,sp⟩:=a; simp only at hs; subst hs; rfl
    ·rw [hll] at hi
     obtain ⟨v,hv,_⟩:=hcell i hi j hj
     rw [hv]
     rw [hadd i j hi hj hs] at hv
     obtain ⟨t2,f2,hh⟩:=AT hsg
     simp only [World.cell?,hh] at hv
     simpa using hv
   ·simp only [List.getElem?_map,Option.map_eq_some_iff] at hx
    obtain ⟨y,⟨i',hi',rfl⟩,rfl⟩:=hx
    have hi : i < len:=by
     have:=(List.getElem?_eq_some_iff.1 hi').1
     simpa using this
    have hii : i' = i:=by simpa [List.getElem?_range hi] using hi'.symm
    subst hii
    have hj : j < k:=by rw [← hfl i' hi]; exact (List.getElem?_eq_some_iff.1 hd).1
    obtain ⟨v,hv,hr⟩:=hcell i' hi j hj
    rw [hv]
    exact hr d hd
  rw [hll] at key
  exact key
theorem dX{R : D→Value→Prop}{a b : List D}{cs : List Value}{o n m : Nat}(h1 : All2 R a ((cs.drop o).take n))(h2 : All2 R b ((cs.drop (o + n)).take m)) : All2 R (a ++ b) ((cs.drop o).take (n + m)):=by
 rw [List.take_add,List.drop_drop]
 exact h1.append h2
theorem cC{N : Nat}{t u : TypeId}{fs : Array Field}{fuel : Nat}{cs : List Value}{x : DataW H×List MemPlace}(ht : Tryz.prog.underlying t = some (.struct fs))(h : DataW.trod en Tryz.prog W 0 (fun _=>true) true fuel t cs = some x)(hb : Rows.uptoBulk x.1≤N + 1)
  (i : Nat) {fd : Field} (hf : fs[i]? = some fd) {α : Type} {f : α→List D} {Q : α→Prop} (hr : Rd en W N fd.type f Q) {c : Nat} (hc : Tryz.prog.cellsOf fd.type = c) : ∃ a,Q a∧All2 (Rep (sg W)) (f a) ((cs.drop fd.offset).take c):=by
 subst hc
 obtain ⟨xs,n,_,rfl,_,hl,hx⟩:=DataW.trod_struct ht h
 have h2:=hx i fd hf
 have hi : i < xs.length:=by rw [hl]; exact (Array.getElem?_eq_some_iff.1 hf).1
 rw [List.getElem?_eq_getElem hi] at h2
 refine hr _ _ _ h2 ?_
 have:=oQ (d:=(xs[i]).1) (l:=xs.map (·.1)) (List.mem_map.2 ⟨_,List.getElem_mem hi,rfl⟩)
 simp only [Rows.uptoBulk] at hb
 omega
theorem nG{t : TypeId}{fs : Array Field}{fuel : Nat}{cs : List Value}{x : DataW H×List MemPlace}(ht : Tryz.prog.underlying t = some (.struct fs))(h : DataW.trod en Tryz.prog W 0 (fun _=>true) true fuel t cs = some x) : cs.length = Tryz.prog.cellsOf t:=by
 obtain ⟨_,_,_,_,hl,_⟩:=DataW.trod_struct ht h
 exact hl
theorem jG : Tryz.prog.cellsOf 3 = 1:=by kernel_rfl
theorem tp : Tryz.prog.cellsOf 2 = 1:=by kernel_rfl
theorem tq : Tryz.prog.cellsOf 9 = 1:=by kernel_rfl
theorem uF : Tryz.prog.cellsOf 28 = 4:=by kernel_rfl
theorem Hq : Tryz.prog.cellsOf 29 = 1:=by kernel_rfl
theorem AU : Tryz.prog.cellsOf 31 = 7:=by kernel_rfl
theorem AW : Tryz.prog.cellsOf 82 = 2:=by kernel_rfl
theorem AX : Tryz.prog.cellsOf 53 = 3:=by kernel_rfl
theorem Hr : Tryz.prog.cellsOf 22 = 1:=by kernel_rfl
theorem Hs : Tryz.prog.cellsOf 23 = 1:=by kernel_rfl
theorem Ht : Tryz.prog.cellsOf 24 = 1:=by kernel_rfl
theorem Hu : Tryz.prog.cellsOf 26 = 3:=by kernel_rfl
theorem l8{R : D→Value→Prop}{a : List D}{cs : List Value}{n : Nat}(h : All2 R a ((cs.drop 0).take n))(hl : cs.length = n) : All2 R a cs:=by
 rw [List.drop_zero,List.take_of_length_le (by omega)] at h; exact h
theorem Eb{N : Nat}(hN : N≤1048575) : Rd en W (N + 1) 28 (fun v : Val=>[.int .i64 v.kind,.int .i64 v.num,.int .i64 v.den,.str v.str]) yes:=by
 intro fuel cs x h hb
 obtain ⟨k,_,hk⟩:=cC (u:=0) Tryz.underlying28 h hb 0 rfl (gX Tryz.underlying3) jG
 obtain ⟨n,_,hn⟩:=cC (u:=0) Tryz.underlying28 h hb 1 rfl (gX Tryz.underlying2) tp
 obtain ⟨d,_,hd⟩:=cC (u:=0) Tryz.underlying28 h hb 2 rfl (gX Tryz.underlying2) tp
 obtain ⟨s,_,hs⟩:=cC (u:=0) Tryz.underlying28 h hb 3 rfl (tn (by omega) Tryz.underlying9) tq
 exact ⟨⟨k,n,d,s⟩,trivial,l8 (dX (dX (dX hk hn) hd) hs) ((nG Tryz.underlying28 h).trans uF)⟩
theorem Js{N : Nat}(hN : N≤1048575) : Rd en W (N + 1) 53 dD yes:=by
 intro fuel cs x h hb
 obtain ⟨s,_,hs⟩:=cC (u:=0) Tryz.underlying53 h hb 0 rfl (tn (by omega) Tryz.underlying9) tq
 obtain ⟨k,_,hk⟩:=cC (u:=0) Tryz.underlying53 h hb 1 rfl (gX Tryz.underlying3) jG
 obtain ⟨n,_,hn⟩:=cC (u:=0) Tryz.underlying53 h hb 2 rfl (gX Tryz.underlying3) jG
 exact ⟨⟨s,k,n⟩,trivial,l8 (dX (dX hs hk) hn) ((nG Tryz.underlying53 h).trans AX)⟩
theorem Hv{N : Nat}(hN : N≤1048575) : Rd en W (N + 1) 82 eO yes:=by
 intro fuel cs x h hb
 obtain ⟨s,_,hs⟩:=cC (u:=0) Tryz.underlying82 h hb 0 rfl (tn (by omega) Tryz.underlying9) tq
 obtain ⟨k,_,hk⟩:=cC (u:=0) Tryz.underlying82 h hb 1 rfl (gX Tryz.underlying3) jG
 exact ⟨⟨s,k⟩,trivial,l8 (dX hs hk) ((nG Tryz.underlying82 h).trans AW)⟩
theorem D7 : ∀ (N : Nat),N≤1048576→Rd en W N 31 oP yes:=by
 intro N
 induction N using Nat.strongRecOn with
 | _ N ih =>
   intro hN fuel cs x h hb
   have h1:=si x.1
   obtain ⟨xs,n0,_,hx,_,hl,hfx⟩:=DataW.trod_struct Tryz.underlying31 h
   obtain ⟨M,rfl⟩ : ∃ M,N = M + 1:=⟨N - 1,by omega⟩
   obtain ⟨o,_,ho⟩:=cC (u:=0) Tryz.underlying31 h hb 0 rfl (gX Tryz.underlying3) jG
   obtain ⟨s,_,hs⟩:=cC (u:=0) Tryz.underlying31 h hb 1 rfl (tn (by omega) Tryz.underlying9) tq
   have hM : 1≤M:=by
    have hi : 0 < xs.length:=by rw [hl]; decide
    have h3:=oQ (d:=(xs[0]).1) (l:=xs.map (·.1)) (List.mem_map.2 ⟨_,List.getElem_mem hi,rfl⟩)
    have h4:=si (xs[0]).1
    rw [hx] at hb
    simp only [Rows.uptoBulk] at hb
    omega
   obtain ⟨L,rfl⟩ : ∃ L,M = L + 1:=⟨M - 1,by omega⟩
   obtain ⟨v,_,hv⟩:=cC (u:=0) Tryz.underlying31 h hb 2 rfl (Eb (N:=L) (by omega)) uF
   obtain ⟨l,_,hlst⟩:=cC (u:=0) Tryz.underlying31 h hb 3 rfl (fT (k:=7) (b:=88) (by omega) (by omega) (by omega) Tryz.underlying29 AU (ih L (by omega) (by omega))) Hq
   refine ⟨.mk o s v l,trivial,?_⟩
   rw [uE]
   exact l8 (dX (dX (dX ho hs) hv) hlst) ((nG Tryz.underlying31 h).trans AU)
theorem Hw : Tryz.prog.cellsOf 37 = 1:=by kernel_rfl
theorem Hx : Tryz.prog.cellsOf 54 = 1:=by kernel_rfl
theorem AY : Tryz.prog.cellsOf 56 = 2:=by kernel_rfl
def FQ(N : Nat)(c : Cell) : Prop:=c.at'.length≤N∧c.vals.length≤N
theorem Hy{N : Nat}(hN : N≤1048573) : Rd en W (N + 3) 56 aJ (FQ (N + 1)):=by
 intro fuel cs x h hb
 obtain ⟨a,qa,ha⟩:=cC (u:=0) Tryz.underlying56 h hb 0 rfl (fT (f:=b0) (N:=N + 1) (k:=1) (b:=8) (by omega) (by omega) (by omega) Tryz.underlying37 jG (gX Tryz.underlying3)) Hw
 obtain ⟨v,qv,hv⟩:=cC (u:=0) Tryz.underlying56 h hb 1 rfl (fT (f:=az) (N:=N + 1) (k:=4) (b:=40) (by omega) (by omega) (by omega) Tryz.underlying54 uF (Eb (by omega))) Hx
 exact ⟨⟨a,v⟩,⟨qa.1,qv.1⟩,l8 (dX ha hv) ((nG Tryz.underlying56 h).trans AY)⟩
def OH(N : Nat)(a : Arr) : Prop:=Co N yes a.dims∧Co N yes a.attrs∧Co N (FQ N) a.cells
theorem Jp{N : Nat}(hN : N≤1048571) : Rd en W (N + 5) 26 Ec (OH (N + 3)):=by
 intro fuel cs x h hb
 obtain ⟨d,qd,hd⟩:=cC (u:=0) Tryz.underlying26 h hb 0 rfl (fT (f:=dD) (N:=N + 3) (k:=3) (b:=32) (by omega) (by omega) (by omega) Tryz.underlying22 AX (Js (by omega))) Hr
 obtain ⟨a,qa,ha⟩:=cC (u:=0) Tryz.underlying26 h hb 1 rfl (fT (f:=eO) (N:=N + 3) (k:=2) (b:=24) (by omega) (by omega) (by omega) Tryz.underlying23 AW (Hv (by omega))) Hs
 obtain ⟨c,qc,hc⟩:=cC (u:=0) Tryz.underlying26 h hb 2 rfl (fT (f:=aJ) (N:=N + 3) (k:=2) (b:=48) (by omega) (by omega) (by omega) Tryz.underlying24 AY (Hy (by omega))) Ht
 exact ⟨⟨d,a,c⟩,⟨qd,qa,qc.1,fun x hx=>by have:=qc.2 x hx; unfold FQ at *; omega⟩,l8 (dX (dX hd ha) hc) ((nG Tryz.underlying26 h).trans Hu)⟩
theorem tg{P : Program}{t : TypeId}{fs : Array Field}{r : Reach}{base : Nat}{v : Value}(ht : P.underlying t = some (.struct fs))(h : Value.okWide P W r base t v) : ∃ cs : List Value,v = .agg cs.toArray:=by
 unfold Value.okWide at h
 rw [ht] at h
 obtain ⟨cs,rfl,_⟩:=h
 exact ⟨cs.toList,by simp⟩
theorem yC{W' : World} : ∀ {ts : List TypeId} {vs : List Value} {ds : List (DataW H)} {ps : List MemPlace},DataW.TrodAll en Tryz.prog W 0 (fun _=>true) true ts vs ds ps→(∀ p∈ps,W.sameAt W' p)→DataW.TrodAll en Tryz.prog W' 0 (fun _=>true) true ts vs ds ps
 | [],[],[],_,h,_=>h
 | _::_,_::_,_::_,_,⟨p,q,⟨n,h1⟩,h2,e⟩,hs=>⟨p,q,⟨n,DataW.trod_carry n _ _ _ h1 fun x hx=>hs x (by rw [e]; exact List.mem_append_left _ hx)⟩,yC h2 fun x hx=>hs x (by rw [e]; exact List.mem_append_right _ hx),e⟩
theorem own : ownKnob Tryz.prog.godebug = none:=by kernel_rfl
theorem OC : Kids Tryz.prog (· < Tryz.prog.types.size):=kids_rows (by kernel_rfl) (by kernel_rfl)
set_option maxRecDepth 100000 in
theorem OD : ∀ t e,t < Tryz.prog.types.size→Tryz.prog.underlying t = some (.slice e)→0 < Tryz.prog.cellsOf e:=slices_full_of Tryz.prog (by kernel_rfl)
theorem vS{W' : World}(h : Kept (MOf (fun _=>none) []) W W') : ∀ b,b < W.heap.size→W'.heap[b]? = W.heap[b]?:=fun b hb=>h.block b hb (by rintro ⟨id,e,p,h1,_⟩; simp [Abs.look] at h1)
theorem Hp{W' : World}(h : Kept (MOf (fun _=>none) []) W W')(may : MemPlace→Prop) : W.keptBut W' may :=
 ⟨h.os,h.output,fun i hi=>by rw [vS h i hi]; exact (World.keptBut_refl W may).2.2 i hi⟩
theorem FM{W' : World}(h : Kept (MOf (fun _=>none) []) W W'){p : MemPlace}(hp : p.block < W.heap.size) : W.sameAt W' p:=by
 have hb:=vS h p.block hp
 cases p with
 | cell b off=>show W'.cell? ⟨b,off,none⟩ = W.cell? ⟨b,off,none⟩; unfold World.cell?; rw [show W'.heap[b]? = W.heap[b]? from hb]
 | map b=>exact hb
theorem lI{σ : Sig}{φ : Pl}{sto : Sto} : ∀ {ds : List D} {vs : List Value},All2 (Rep σ) ds vs→All2 (RepC σ φ sto) (ds.map .d) vs
 | [],[],_=>trivial
 | d::r,v::vs,h=>⟨.d h.1,lI h.2⟩
 | [],_::_,h=>h.elim
 | _::_,[],h=>h.elim
theorem tsz : Nat.blt 300 Tryz.prog.types.size = true:=by kernel_rfl
theorem few{t : Nat}(h : t≤300) : t < Tryz.prog.types.size:=by have:=Nat.blt_eq.mp tsz; omega
theorem FN{W' : World}{base : Nat}{sp : Nat→Bool}{held : Bool}(b : Bool) : DataW.Trod en Tryz.prog W' base sp held 4 (.bool b) (.lit (.bool b)) []:=⟨1,by simp [DataW.trod,Value.cells,Tryz.underlying4]⟩
end
end Go.Proofs.YtpejdgkaapnekaaGreat
namespace Go.Proofs.YtpejdgkaapnekaaGreat
open Go Go.Abs
attribute [local irreducible] aa OkC aj av al aB
set_option maxRecDepth 10000
theorem c90 : ∀ (m : Nat) (s : Scalar) (z : Int),z = m→m≤12→CallA Tryz.prog 90 [cF s,.one (.d (.int .i64 z))] [] (.one (.d (.int .i64 (cL m s)))) []
 | 0,s,z,hz,hm=>by
   subst hz
   refine enter af Tryz.func90 rfl (by decide +kernel) rfl fun hok w0 σ0 φ0 M=>?_
   clear hok
   repeat' (first|refine wG ?_)
   all_goals (try (((simp_all [cL,ak,List.drop_eq_nil_of_le]) <;> exact wL); done))
 | m + 1,s,z,hz,hm=>by
   have ih:=fun (s : Scalar) (z : Int) (hz : z = m)=>c90 m s z hz (by omega)
   refine enter af Tryz.func90 rfl (by decide +kernel) rfl fun hok w0 σ0 φ0 M=>?_
   have h1:=(OkD.sl (hok.1 (.d (bA s.args)) (by simp))).1; clear hok; simp only [List.length_map] at h1
   have hf:=fun k=>oJ (f:=cL m) (B:=m + 1) (fun x=>by have:=pM m x; omega) (s.args.take k) 0 (by omega) (by omega)
   repeat' (first|(refine h1H ?_; (refine h0H ?_; refine ab J J J J J J J J (ih _ _ (by omega)) J ?_))|refine wG ?_|(refine h5H ?_; first|refine ai J (fun h=>?_) (fun h=>?_)|refine bg 5 J [(1,_),(2,_)] (q2Q J J) (fun (p : Nat×Int)=>[(5,.one (.d (.int .i64 p.2))),(6,.one (.d (.int .i64 (p.1 : Int))))]) (fun (p : Nat×Int)=>p.1≤s.args.length∧p.2 = (s.args.take p.1).foldl (fun d x=>max d (cL m x)) 0) (fun (p : Nat×Int)=>s.args.length - p.1) (0,0) (q2Q J J) ?_ (fun p ⟨hk,hd⟩=>?_))|(show Exists _; refine Exists.intro ((p.1 + 1,max p.2 (cL m (at_ s.args p.1)))) ⟨?_,?_,wK,(q2Q J J),(q2Q J J)⟩))
   all_goals (try (((simp_all [cL,DV,ak,List.drop_eq_nil_of_le]) <;> exact wL); done))
   ·have hw:=hf p.1
    rw [← hd] at hw
    have hl : s.args.length≤p.1:=by simpa using h
    rw [ga (by omega) (by omega),hd,List.take_of_length_le hl]
    rfl
mutual
def c6 : Scalar→Int→Int
 | .mk _ _ _ a,most=>dm a 1 most
def dm : List Scalar→Int→Int→Int
 | [],n,_=>n
 | x::r,n,most=>if n≤most then dm r (n + c6 x (most - n)) most else n
end
theorem pN : ∀ {s : Scalar} {most : Int},c6 s most = dm s.args 1 most
 | .mk _ _ _ a,most=>by simp [c6,Scalar.args]
theorem o7{most : Int} : ∀ (l : List Scalar),(∀ x∈l,∀ m,0≤m→1≤c6 x m∧c6 x m≤m + 1)→∀ n,1≤n→n≤most + 1→1≤dm l n most∧dm l n most≤most + 1
 | [],_,n,h1,h2=>by simp [dm,h1,h2]
 | x::r,h,n,h1,h2=>by
   simp only [dm]
   split
   ·have:=h x (by simp) (most - n) (by omega)
    exact o7 r (fun y hy=>h y (by simp [hy])) _ (by omega) (by omega)
   ·exact ⟨h1,h2⟩
theorem pO(s : Scalar) : ∀ m,0≤m→1≤c6 s m∧c6 s m≤m + 1:=by
 induction s using Scalar.ind with
 | h s ih =>
   intro m hm
   rw [pN]
   exact o7 s.args ih 1 (by omega) (by omega)
theorem c91(s : Scalar) : ∀ (z : Int),0≤z→z≤64→CallA Tryz.prog 91 [cF s,.one (.d (.int .i64 z))] [] (.one (.d (.int .i64 (c6 s z)))) []:=by
 induction s using Scalar.ind with
 | h s ih =>
   intro z hz hz2
   refine enter af Tryz.func91 rfl (by decide +kernel) rfl fun hok w0 σ0 φ0 M=>?_
   have h1:=(OkD.sl (hok.1 (.d (bA s.args)) (by simp))).1; clear hok; simp only [List.length_map] at h1
   repeat' (first|(refine h1H ?_; (refine h0H ?_; refine ab J J J J J J J J (ih _ (b9 wB) _ wB wB) J ?_))|refine wG ?_|(refine h1H ?_; (refine h4H ?_; refine aG J J J J (fun h=>?_) (fun h=>?_)))|(refine h5H ?_; first|refine ai J (fun h=>?_) (fun h=>?_)|refine bg 3 J [(1,_),(2,_)] (q2Q J J) (fun (p : Nat×Int)=>[(5,.one (.d (.int .i64 p.2))),(6,.one (.d (.int .i64 (p.1 : Int))))]) (fun (p : Nat×Int)=>p.1≤s.args.length∧1≤p.2∧p.2≤z + 1∧c6 s z = dm (s.args.drop p.1) p.2 z) (fun (p : Nat×Int)=>s.args.length - p.1) (0,1) (q2Q J J) ?_ (fun p ⟨hk,hn,hn2,hs⟩=>?_))|(show Exists _; refine Exists.intro ((p.1 + 1,IntKind.i64.wrap (p.2 + c6 (at_ s.args p.1) (z - p.2)))) ⟨?_,?_,wK,(q2Q J J),(q2Q J J)⟩))
   all_goals (try (((simp_all [pN,dm,ak,List.drop_eq_nil_of_le]) <;> exact wL); done))
   ·rename_i hlt
    have hk' : p.1 < s.args.length:=by simpa using hlt
    have hle : p.2≤z:=by simpa using h
    have hr:=pO (at_ s.args p.1) (z - p.2) (by omega)
    rw [ga (by omega) (by omega)]
    refine ⟨by show p.1 + 1≤_; omega,by show 1≤p.2 + _; omega,by show p.2 + _≤_; omega,?_⟩
    rw [hs,ak hk']
    simp only [dm,hle,if_true]
theorem Mp(nm : List UInt8)(lo hi : Int) : CallA Tryz.prog 139 [.agg [.d (.str nm),.d (.int .i64 lo),.d (.int .i64 hi)]] [] (.one (.d (.str nm))) []:=by
 refine enter af Tryz.func139 rfl (by decide +kernel) rfl fun hok w0 σ0 φ0 M=>?_
 repeat' (first|refine wG ?_)
 all_goals (try (((simp_all [ak,List.drop_eq_nil_of_le]) <;> exact wL); done))
theorem Mq(nm : List UInt8)(t : Int) : CallA Tryz.prog 151 [.agg [.d (.str nm),.d (.int .i64 t)]] [] (.one (.d (.str nm))) []:=by
 refine enter af Tryz.func151 rfl (by decide +kernel) rfl fun hok w0 σ0 φ0 M=>?_
 repeat' (first|refine wG ?_)
 all_goals (try (((simp_all [ak,List.drop_eq_nil_of_le]) <;> exact wL); done))
theorem Mr(nm name : List UInt8)(lo hi : Int) : CallA Tryz.prog 245 [.agg [.d (.str nm),.d (.int .i64 lo),.d (.int .i64 hi)],.one (.d (.ptr [.fn 139 []])),.one (.d (.ptr [.str name]))] [] (.one (.d (.bool (nm == name)))) []:=by
 refine enter af Tryz.func245 rfl (by decide +kernel) rfl fun hok w0 σ0 φ0 M=>?_
 repeat' (first|(refine h3H ?_; (refine h2H ?_; refine d_l J J (bo J J J J J J (Mp _ _ _) J) ?_))|refine wG ?_)
 all_goals (try (((simp_all [ak,List.drop_eq_nil_of_le]) <;> exact wL); done))
theorem Ms(nm name : List UInt8)(t : Int) : CallA Tryz.prog 251 [.agg [.d (.str nm),.d (.int .i64 t)],.one (.d (.ptr [.fn 151 []])),.one (.d (.ptr [.str name]))] [] (.one (.d (.bool (nm == name)))) []:=by
 refine enter af Tryz.func251 rfl (by decide +kernel) rfl fun hok w0 σ0 φ0 M=>?_
 repeat' (first|(refine h3H ?_; (refine h2H ?_; refine d_l J J (bo J J J J J J (Mq _ _) J) ?_))|refine wG ?_)
 all_goals (try (((simp_all [ak,List.drop_eq_nil_of_le]) <;> exact wL); done))
theorem Mt(f : FuncId)(caps : List D)(p : Dim→Bool)(hp : ∀ d : Dim,CallA Tryz.prog f ([.agg [.d (.str d.name),.d (.int .i64 d.lo),.d (.int .i64 d.hi)]] ++ caps.map fun x=>.one (.d x)) [] (.one (.d (.bool (p d)))) [])(l : List Dim) :
  CallA Tryz.prog 244 [.one (.d (aw l)),.one (.d (.fn f caps))] [] (.one (.d (.int .i64 (aI p l 0)))) []:=by
 refine enter af Tryz.func244 rfl (by decide +kernel) rfl fun hok w0 σ0 φ0 M=>?_
 have h1:=hok.1.sl; clear hok; simp only [List.length_map] at h1; replace h1:=h1.1
 repeat' (first|(refine h1H ?_; (refine h0H ?_; refine ab J J J J J J J J (hp _) J ?_))|refine wG ?_|(refine h5H ?_; first|refine ai J (fun h=>?_) (fun h=>?_)|refine bg 2 J [(0,_),(1,_),(7,_)] (q3Q J J J) (fun (k : Nat)=>[(8,.one (.d (.int .i64 k)))]) (fun (k : Nat)=>k≤l.length∧aI p l 0 = aI p (l.drop k) k) (fun (k : Nat)=>l.length - k) 0 (q1Q J) ?_ (fun k ⟨hk,hs⟩=>?_))|(show Exists _; refine Exists.intro (k + 1) ⟨?_,?_,wK,(q1Q J),(q3Q J J J)⟩))
 all_goals (try (((simp_all [aI,ak,List.drop_eq_nil_of_le]) <;> exact wL); done))
theorem Mu(f : FuncId)(caps : List D)(p : Attr→Bool)(hp : ∀ d : Attr,CallA Tryz.prog f ([.agg [.d (.str d.name),.d (.int .i64 d.type)]] ++ caps.map fun x=>.one (.d x)) [] (.one (.d (.bool (p d)))) [])(l : List Attr) :
  CallA Tryz.prog 250 [.one (.d (au l)),.one (.d (.fn f caps))] [] (.one (.d (.int .i64 (aI p l 0)))) []:=by
 refine enter af Tryz.func250 rfl (by decide +kernel) rfl fun hok w0 σ0 φ0 M=>?_
 have h1:=hok.1.sl; clear hok; simp only [List.length_map] at h1; replace h1:=h1.1
 repeat' (first|(refine h1H ?_; (refine h0H ?_; refine ab J J J J J J J J (hp _) J ?_))|refine wG ?_|(refine h5H ?_; first|refine ai J (fun h=>?_) (fun h=>?_)|refine bg 2 J [(0,_),(1,_),(7,_)] (q3Q J J J) (fun (k : Nat)=>[(8,.one (.d (.int .i64 k)))]) (fun (k : Nat)=>k≤l.length∧aI p l 0 = aI p (l.drop k) k) (fun (k : Nat)=>l.length - k) 0 (q1Q J) ?_ (fun k ⟨hk,hs⟩=>?_))|(show Exists _; refine Exists.intro (k + 1) ⟨?_,?_,wK,(q1Q J),(q3Q J J J)⟩))
 all_goals (try (((simp_all [aI,ak,List.drop_eq_nil_of_le]) <;> exact wL); done))
theorem Mv(l : List Dim)(name : List UInt8) : CallA Tryz.prog 195 [.one (.d (aw l)),.one (.d (.str name)),.one (.d (.fn 139 []))] [] (.one (.d (.int .i64 (aI (fun a : Dim=>a.name == name) l 0)))) []:=by
 refine enter af Tryz.func195 rfl (by decide +kernel) rfl fun hok w0 σ0 φ0 M=>?_
 repeat' (first|(refine h1H ?_; (refine h0H ?_; refine ab J J J J J J J J (Mt _ _ _ (fun d=>Mr _ name _ _) _) J ?_))|refine wG ?_)
 all_goals (try (((simp_all [ak,List.drop_eq_nil_of_le]) <;> exact wL); done))
theorem Mw(l : List Attr)(name : List UInt8) : CallA Tryz.prog 207 [.one (.d (au l)),.one (.d (.str name)),.one (.d (.fn 151 []))] [] (.one (.d (.int .i64 (aI (fun a : Attr=>a.name == name) l 0)))) []:=by
 refine enter af Tryz.func207 rfl (by decide +kernel) rfl fun hok w0 σ0 φ0 M=>?_
 repeat' (first|(refine h1H ?_; (refine h0H ?_; refine ab J J J J J J J J (Mu _ _ _ (fun d=>Ms _ name _) _) J ?_))|refine wG ?_)
 all_goals (try (((simp_all [ak,List.drop_eq_nil_of_le]) <;> exact wL); done))
theorem BH(ds : List Dim)(ats : List Attr)(cs : D)(name : List UInt8) : CallA Tryz.prog 126 [.agg [.d (aw ds),.d (au ats),.d cs],.one (.d (.str name))] [] (.one (.d (.int .i64 (aI (fun a : Dim=>a.name == name) ds 0)))) []:=by
 refine enter af Tryz.func126 rfl (by decide +kernel) rfl fun hok w0 σ0 φ0 M=>?_
 repeat' (first|(refine h1H ?_; (refine h0H ?_; refine ab J J J J J J J J (Mv _ _) J ?_))|refine wG ?_)
 all_goals (try (((simp_all [ak,List.drop_eq_nil_of_le]) <;> exact wL); done))
theorem BI(ds : List Dim)(ats : List Attr)(cs : D)(name : List UInt8) : CallA Tryz.prog 148 [.agg [.d (aw ds),.d (au ats),.d cs],.one (.d (.str name))] [] (.one (.d (.int .i64 (aI (fun a : Attr=>a.name == name) ats 0)))) []:=by
 refine enter af Tryz.func148 rfl (by decide +kernel) rfl fun hok w0 σ0 φ0 M=>?_
 repeat' (first|(refine h1H ?_; (refine h0H ?_; refine ab J J J J J J J J (Mw _ _) J ?_))|refine wG ?_)
 all_goals (try (((simp_all [ak,List.drop_eq_nil_of_le]) <;> exact wL); done))
theorem MO(f : FuncId)(caps : List D)(p : Scalar→Bool)(hp : ∀ d : Scalar,CallA Tryz.prog f ([cF d] ++ caps.map fun x=>.one (.d x)) [] (.one (.d (.bool (p d)))) [])(l : List Scalar) :
  CallA Tryz.prog 263 [.one (.d (bA l)),.one (.d (.fn f caps))] [] (.one (.d (.int .i64 (aI p l 0)))) []:=by
 refine enter af Tryz.func263 rfl (by decide +kernel) rfl fun hok w0 σ0 φ0 M=>?_
 have h1:=hok.1.sl; clear hok; simp only [List.length_map] at h1; replace h1:=h1.1
 repeat' (first|(refine h1H ?_; (refine h0H ?_; refine ab J J J J J J J J (hp _) J ?_))|refine wG ?_|(refine h5H ?_; first|refine ai J (fun h=>?_) (fun h=>?_)|refine bg 2 J [(0,_),(1,_),(7,_)] (q3Q J J J) (fun (k : Nat)=>[(8,.one (.d (.int .i64 k)))]) (fun (k : Nat)=>k≤l.length∧aI p l 0 = aI p (l.drop k) k) (fun (k : Nat)=>l.length - k) 0 (q1Q J) ?_ (fun k ⟨hk,hs⟩=>?_))|(show Exists _; refine Exists.intro (k + 1) ⟨?_,?_,wK,(q1Q J),(q3Q J J J)⟩))
 all_goals (try (((simp_all [aI,ak,List.drop_eq_nil_of_le]) <;> exact wL); done))
theorem Aq{α : Type}{p : α→Bool} : ∀ {l : List α} {k : Nat},decide (0≤aI p l k) = l.any p
 | [],k=>by simp [aI]
 | x::r,k=>by
   have ih:=Aq (p:=p) (l:=r) (k:=k + 1)
   simp only [aI,List.any_cons,← ih]
   by_cases hx : p x = true <;> simp [hx]
theorem MP(f : FuncId)(caps : List D)(p : Scalar→Bool)(hp : ∀ d : Scalar,CallA Tryz.prog f ([cF d] ++ caps.map fun x=>.one (.d x)) [] (.one (.d (.bool (p d)))) [])(l : List Scalar) :
  CallA Tryz.prog 222 [.one (.d (bA l)),.one (.d (.fn f caps))] [] (.one (.d (.bool (l.any p)))) []:=by
 refine enter af Tryz.func222 rfl (by decide +kernel) rfl fun hok w0 σ0 φ0 M=>?_
 clear hok
 repeat' (first|(refine h1H ?_; (refine h0H ?_; refine ab J J J J J J J J (MO f caps p hp _) J ?_))|refine wG ?_)
 all_goals (rw [← Aq (k:=0)])
def il : Nat→Scalar→Bool
 | 0,_=>true
 | m + 1,s=>s.args.any (il m)
theorem MQ(m : Nat)(hm : m≤12)(hd : ∀ s z,z = (m : Int)→CallA Tryz.prog 172 [cF s,.one (.d (.int .i64 z))] [] (.one (.d (.bool (il m s)))) [])(s : Scalar)(y : Int)(hy : y = m + 1) :
  CallA Tryz.prog 223 [cF s,.one (.d (.ptr [.int .i64 y]))] [] (.one (.d (.bool (il m s)))) []:=by
 refine enter af Tryz.func223 rfl (by decide +kernel) rfl fun hok w0 σ0 φ0 M=>?_
 clear hok
 repeat' (first|(refine h1H ?_; (refine h0H ?_; refine ab J J J J J J J J (hd _ _ (by omega)) J ?_))|refine wG ?_)
 all_goals (try (((simp_all [ak,List.drop_eq_nil_of_le]) <;> exact wL); done))
theorem I1 : ∀ (m : Nat) (s : Scalar) (z : Int),z = m→m≤12→CallA Tryz.prog 172 [cF s,.one (.d (.int .i64 z))] [] (.one (.d (.bool (il m s)))) []
 | 0,s,z,hz,hm=>by
   subst hz
   refine enter af Tryz.func172 rfl (by decide +kernel) rfl fun hok w0 σ0 φ0 M=>?_
   clear hok
   repeat' (first|refine wG ?_)
   all_goals (try (((simp_all [il,ak,List.drop_eq_nil_of_le]) <;> exact wL); done))
 | m + 1,s,z,hz,hm=>by
   have hz : z = m + 1:=by omega
   refine enter af Tryz.func172 rfl (by decide +kernel) rfl fun hok w0 σ0 φ0 M=>?_
   clear hok
   repeat' (first|(refine h1H ?_; (refine h0H ?_; refine ab J J J J J J J J (MP _ _ (il m) (fun d=>MQ m (by omega) (fun s z hz=>I1 m s z hz (by omega)) d _ hz) _) J ?_))|refine wG ?_|(refine h1H ?_; (refine h4H ?_; refine aG J J J J (fun h=>?_) (fun h=>?_))))
   all_goals (try (((simp_all [il,ak,List.drop_eq_nil_of_le]) <;> exact wL); done))
def Jz(n : Int) : List D:=[.int .u32 n]
def cY(l : List Int) : D:=.sl 1 4 (l.map Jz)
def cB(z : Int) : List Int:=if z = 0 then [] else if z < 1000000000 then [z] else [z % 1000000000,z / 1000000000]
theorem IU(l : List Int)(i : Nat)(h : ∀ x∈l,0≤x∧x < 1000000000) : CallA Tryz.prog 342 [.one (.d (cY l)),.one (.d (.int .i64 i))] [] (.one (.d (.int .u64 (at_ l i)))) []:=by
 refine enter af Tryz.func342 rfl (by decide +kernel) rfl fun hok w0 σ0 φ0 M=>?_
 clear hok
 have hb : i < l.length→0≤at_ l i∧at_ l i < 1000000000:=fun hi=>h _ (b9 hi)
 repeat' (first|refine wG ?_|(refine h5H ?_; refine ai J (fun h=>?_) (fun h=>?_)))
 ·have hi : i < l.length:=by simpa using h
  have:=hb hi
  show AV.one (.d (.int .u64 (IntKind.u64.wrap (at_ l i)))) = _
  rw [kc (by omega) (by omega)]
 ·have hi : l.length≤i:=by simpa using h
  simp [at_,List.getD_eq_getElem?_getD,hi]
theorem xU(z : Int)(h0 : 0≤z)(h1 : z < 1000000000000000000) : CallA Tryz.prog 268 [.one (.d (.int .u64 z))] [] (.one (.d (cY (cB z)))) []:=by
 refine enter af Tryz.func268 rfl (by decide +kernel) rfl fun hok w0 σ0 φ0 M=>?_
 clear hok
 repeat' (first|(refine h1H ?_; (refine FT ?_; refine s_e ao J J J (lj J J J J (by omega) (by omega)) ?_))|(refine h1H ?_; (refine FU ?_; refine s_e ao J J J (lk J J J J (by omega) (by omega) (kc (by omega) (by omega))) ?_))|(refine h5H ?_; first|refine bO (cU (dl:=[3]) J) (dg ?_)|refine bO (cU (dl:=[1]) J) (dg ?_)|refine bO (lB (s:=2) (k:=1) (b:=4) J) (dg ?_))|refine wG ?_|(refine h5H ?_; first|refine ai J (fun h=>?_) (fun h=>?_)|refine pE 2 J 3 ?_))
 all_goals (try simp only [decide_eq_true_eq,decide_eq_false_iff_not] at *)
 ·omega
 ·have e : cB z = [z % 1000000000,z / 1000000000 % 1000000000]:=by
   have : z / 1000000000 % 1000000000 = z / 1000000000:=by omega
   rw [this]; unfold cB; rw [if_neg (by omega),if_neg (by omega)]
  rw [e]; rfl
 ·have e : cB z = [z % 1000000000]:=by
   have : z % 1000000000 = z:=by omega
   rw [this]; unfold cB; rw [if_neg (by omega),if_pos (by omega)]
  rw [e]; rfl
 ·have e : cB z = []:=by unfold cB; rw [if_pos (by omega)]
  rw [e]; rfl
theorem Fs{z : Int}(h0 : 0≤z)(h1 : z < 1000000000000000000) : ∀ x∈cB z,0≤x∧x < 1000000000:=by
 intro x hx
 unfold cB at hx
 split at hx
 ·simp at hx
 ·split at hx
  ·simp at hx; omega
  ·simp at hx; omega
theorem Hf{z : Int}(h0 : 0≤z)(h1 : z < 1000000000000000000) : at_ (cB z) 0 + 1000000000 * at_ (cB z) 1 = z∧0≤at_ (cB z) 0∧at_ (cB z) 0 < 1000000000∧0≤at_ (cB z) 1∧at_ (cB z) 1 < 1000000000:=by
 unfold cB
 split
 ·rename_i h; subst h; exact ⟨rfl,by decide,by decide,by decide,by decide⟩
 ·split
  ·show z + 1000000000 * 0 = z∧0≤z∧z < 1000000000∧(0 : Int)≤0∧(0 : Int) < 1000000000
   omega
  ·show z % 1000000000 + 1000000000 * (z / 1000000000) = z∧0≤z % 1000000000∧z % 1000000000 < 1000000000∧0≤z / 1000000000∧z / 1000000000 < 1000000000
   omega
theorem xT{z : Int} : (cB z).length≤2:=by
 unfold cB
 split
 ·simp
 ·split <;> simp
theorem Ft{z : Int} : 0 < (cB z).length↔z≠0:=by
 unfold cB
 split
 ·simp_all
 ·split <;> simp_all
theorem IT(z : Int)(h0 : 0≤z)(h1 : z < 1000000000000000000) : CallA Tryz.prog 343 [.one (.d (cY (cB z)))] [] (.one (.d (.int .u64 z))) []:=by
 refine enter af Tryz.func343 rfl (by decide +kernel) rfl fun hok w0 σ0 φ0 M=>?_
 clear hok
 have hm:=Fs h0 h1
 obtain ⟨he,ha,hb,hc,hd⟩:=Hf h0 h1
 repeat' (first|(refine h1H ?_; (refine h0H ?_; first|refine ab J J J J J J J J (IU _ 0 hm) J ?_|refine ab J J J J J J J J (IU _ 1 hm) J ?_))|refine wG ?_)
 all_goals (rw [he])
theorem Fu{n : Int}(h0 : -1099511627776≤n)(h : n < 0) : IntKind.u64.wrap (0 - IntKind.u64.wrap n) = -n:=by
 simp only [IntKind.wrap,IntKind.signed,IntKind.bits,Bool.false_and,Bool.false_eq_true,if_false]
 omega
theorem MA(n : Int)(h0 : -1099511627776≤n)(h1 : n≤1099511627776) : CallA Tryz.prog 267 [.one (.d (.int .i64 n))] [] (.one (.d (cY (cB (max n (-n)))))) []:=by
 refine enter af Tryz.func267 rfl (by decide +kernel) rfl fun hok w0 σ0 φ0 M=>?_
 clear hok
 repeat' (first|refine wG ?_|(refine h5H ?_; refine ai J (fun h=>?_) (fun h=>?_)))
 ·have hn : n < 0:=by simpa using h
  rw [Fu h0 hn]
  refine aZ 16 rfl rfl rfl rfl rfl rfl rfl rfl (xU (-n) (by omega) (by omega)) rfl rfl (rav':=.one (.d (cY (cB (-n))))) rfl ?_
  repeat' (first|refine wG ?_)
  rw [show max n (-n) = -n by omega]
 ·have hn : 0≤n:=by simpa using h
  refine aZ 16 rfl rfl rfl rfl rfl rfl rfl rfl (xU n (by omega) (by omega)) rfl rfl (rav':=.one (.d (cY (cB n)))) rfl ?_
  repeat' (first|refine wG ?_)
  rw [show max n (-n) = n by omega]
theorem EO{x y : Int}(hx : 0≤x)(hx1 : x < 1000000000000000000)(hy : 0 < y) : 0≤x / y∧x / y < 1000000000000000000:=by
 refine ⟨Int.ediv_nonneg hx (by omega),?_⟩
 have h1:=Int.ediv_le_self y hx
 omega
theorem wv{x y : Int}(hx : 0≤x)(hx1 : x < 1000000000000000000)(hy : 0 < y) : 0≤x % y∧x % y < 1000000000000000000:=by
 refine ⟨Int.emod_nonneg x (by omega),?_⟩
 have:=gY hx hy
 omega
theorem PZ(x y : Int)(hx : 0≤x)(hx1 : x < 1000000000000000000)(hy : 0 < y)(hy1 : y < 1000000000000000000) : CallA Tryz.prog 287 [.one (.d (cY (cB x))),.one (.d (cY (cB y)))] [] (.tup [(false,[.d (cY (cB (x / y)))]),(false,[.d (cY (cB (x % y)))])]) []:=by
 refine enter af Tryz.func287 rfl (by decide +kernel) rfl fun hok w0 σ0 φ0 M=>?_
 clear hok
 have hl1:=xT (z:=x); have hl2:=xT (z:=y)
 have hd:=EO hx hx1 hy; have hm:=wv hx hx1 hy
 repeat' (first|(refine h1H ?_; (refine FT ?_; refine s_e ao J J J (lj J J J J (by omega) (by omega)) ?_))|(refine h1H ?_; (refine FU ?_; refine s_e ao J J J (lk J J J J (by omega) (by omega) (kc (by omega) (by omega))) ?_))|(refine h1H ?_; (refine h0H ?_; first|refine ab J J J J J J J J (IT x (by omega) (by omega)) J ?_|refine ab J J J J J J J J (IT y (by omega) (by omega)) J ?_|refine aZ 16 J J J J J J J J (xU (x / y) (by omega) (by omega)) J J J ?_|refine aZ 16 J J J J J J J J (xU (x % y) (by omega) (by omega)) J J J ?_))|refine wG ?_|(refine h1H ?_; (refine h4H ?_; refine aG J J J J (fun h=>?_) (fun h=>?_)))|(refine h5H ?_; refine ai J (fun h=>?_) (fun h=>?_)))
 ·rfl
 ·exfalso; simp at h; omega
 ·exfalso; simp at h; omega
theorem wx{z : Int} : (cB z).length = 0↔z = 0:=by
 have:=Ft (z:=z)
 omega
theorem M5(x y : Int)(hx : 0≤x)(hx1 : x < 1000000000000000000)(hy : 0≤y)(hy1 : y < 1000000000000000000) : CallA Tryz.prog 266 [.one (.d (cY (cB x))),.one (.d (cY (cB y)))] [] (.one (.d (cY (cB (Int.gcd x y))))) []:=by
 refine enter af Tryz.func266 rfl (by decide +kernel) rfl fun hok w0 σ0 φ0 M=>?_
 clear hok
 repeat' (first|(refine h1H ?_; (refine h0H ?_; refine aZ 16 J J J J J J J J (PZ p.1 p.2 wB wB wB wB) J J J ?_))|refine wG ?_|(refine h5H ?_; first|refine ai J (fun h=>?_) (fun h=>?_)|refine bg 1 J [] aU (fun (p : Int×Int)=>[(0,.one (.d (cY (cB p.1)))),(1,.one (.d (cY (cB p.2))))]) (fun (p : Int×Int)=>(0≤p.1∧p.1 < 1000000000000000000)∧(0≤p.2∧p.2 < 1000000000000000000)∧((cB p.2).length = 0↔p.2 = 0)∧Int.gcd p.1 p.2 = Int.gcd x y) (fun (p : Int×Int)=>p.2.toNat) (x,y) (q2Q J J) ?_ (fun p ⟨h1,h2,h3,h4⟩=>?_))|(show Exists _; refine Exists.intro ((p.2,p.1 % p.2)) ⟨?_,?_,wK,(q2Q J J),aU⟩))
 ·exact ⟨⟨hx,hx1⟩,⟨hy,hy1⟩,wx,rfl⟩
 ·have hp : p.2≠0:=by
   intro e
   have:=h3.2 e
   simp [this] at h
  refine ⟨h2,wv h1.1 h1.2 (by omega),wx,?_⟩
  show Int.gcd p.2 (p.1 % p.2) = _
  rw [← h4]
  obtain ⟨a,ha⟩:=Int.eq_ofNat_of_zero_le h1.1
  obtain ⟨b,hb⟩:=Int.eq_ofNat_of_zero_le h2.1
  rw [ha,hb]
  show Nat.gcd b (a % b) = Nat.gcd a b
  rw [Nat.gcd_comm,← Nat.gcd_rec,Nat.gcd_comm]
 ·have hp : p.2≠0:=by
   intro e
   have:=h3.2 e
   simp [this] at h
  have h5:=Int.emod_lt_of_pos p.1 (show 0 < p.2 by omega)
  have h6:=Int.emod_nonneg p.1 hp
  show (p.1 % p.2).toNat < p.2.toNat
  omega
 ·have hp : p.2 = 0:=h3.1 (by simpa using h)
  rw [hp] at h4
  have : ((Int.gcd p.1 0 : Nat) : Int) = p.1:=by
   rw [Int.gcd_zero_right]; omega
  rw [← h4,this]
def uu(l : List Int) : Int:=if (l.length : Int) < 1 then -1 else if 1 < (l.length : Int) then 1 else if at_ l 0 < 1 then -1 else if 1 < at_ l 0 then 1 else 0
theorem MU(l : List Int) : CallA Tryz.prog 265 [.one (.d (cY l)),.one (.d (cY [1]))] [] (.one (.d (.int .i64 (uu l)))) []:=by
 refine enter af Tryz.func265 rfl (by decide +kernel) rfl fun hok w0 σ0 φ0 M=>?_
 have h1:=hok.1.sl.1; clear hok; simp only [List.length_map] at h1
 repeat' (first|refine wG ?_|(refine h5H ?_; first|refine ai J (fun h=>?_) (fun h=>?_)|refine pE 6 J 3 ?_))
 all_goals (try (((simp_all [uu,ak,List.drop_eq_nil_of_le]) <;> exact wL); done))
 all_goals (try simp only [a0A,a1A,Fg,a5A,yh,yi] at *)
 all_goals (have hl : l.length = 1:=by omega)
 all_goals (obtain ⟨a,rfl⟩:=List.length_eq_one_iff.1 hl)
 all_goals (simp [uu,at_] at *; try omega)
theorem yr{g : Int}(h0 : 0≤g) : (uu (cB g) == 0) = (g == 1):=by
 unfold cB
 split
 ·rename_i h; subst h; rfl
 ·split
  ·rename_i h1 h2
   simp [uu,at_]
   rw [Bool.eq_iff_iff]; simp
   split <;> (try split) <;> omega
  ·rename_i h1 h2
   have : (g == 1) = false:=by simp; omega
   rw [this]; simp [uu]
theorem DW{n d : Int}(hd : 1≤d) : Int.gcd (max n (-n)) (max d (-d)) = Nat.gcd n.natAbs d.toNat:=by
 unfold Int.gcd
 congr 1 <;> omega
theorem Ho : CallA Tryz.prog 268 [.one (.d (.int .u64 1))] [] (.one (.d (cY [1]))) []:=xU 1 (by omega) (by omega)
theorem IG(k' n d : Int)(s : List UInt8) : CallA Tryz.prog 227 [.agg [.d (.int .i64 k'),.d (.int .i64 n),.d (.int .i64 d),.d (.str s)]] [] (.one (.d (.int .i64 (if cy k' n d s then 0 else 2)))) []:=by
 refine enter af Tryz.func227 rfl (by decide +kernel) rfl fun hok w0 σ0 φ0 M=>?_
 have hl:=(hok.1 (.d (.str s)) (by simp)); replace hl:=OkD.str hl; clear hok
 repeat' (first|(refine h3H ?_; (refine h2H ?_; first|refine d_l J J (bo J J J J J J (MU _) J) ?_|refine cr 16 J J J J J J J J (MA _ wB wB) J J ?_|refine cr 16 J J J J J J J J (M5 _ _ wB wB wB wB) J J ?_|refine cr 16 J J J J J J J J (Ho) J J ?_))|refine wG ?_|(refine h1H ?_; (refine h4H ?_; refine aG J J J J (fun h=>?_) (fun h=>?_)))|(refine h5H ?_; first|refine ai J (fun h=>?_) (fun h=>?_)|refine bg 12 J [(1,_)] (q1Q J) (fun (p : Nat×Bool)=>[(4,.one (.d (.int .i64 (p.1 : Int)))),(3,.one (.d (.bool p.2)))]) (fun (p : Nat×Bool)=>p.1≤s.length∧p.2 = ((n == 0 && (d == 0 && decide ((s.length : Int)≤16))) && (s.take p.1).all dE)) (fun (p : Nat×Bool)=>s.length - p.1) (0,_) (q2Q J J) ?_ (fun p ⟨hk,hp⟩=>?_))|(refine h3H ?_; (refine xB ?_; refine nk J J (fun h=>?_) (fun h=>?_)))|(show Exists _; refine Exists.intro ((p.1 + 1,_)) ⟨?_,?_,wK,(q2Q J J),(q1Q J)⟩))
 all_goals (try (((simp_all [cy,pn,eL,dE,ak,List.drop_eq_nil_of_le]) <;> exact wL); done))
 ·rename_i a1 a2 a3 a4 a5 a6 a7 a8
  rw [DW (by simpa using a4),yr (by omega)] at h
  simp_all [cy]
 ·rename_i a1 a2 a3 a4 a5 a6 a7 a8
  rw [DW (by simpa using a4),yr (by omega)] at h
  simp_all [cy]
 ·refine ⟨Nat.zero_le _,?_⟩
  change decide ((s.length : Int)≤16) = _
  simp_all
 ·rename_i a1 a2 a3 a4 a5 a6 a7 a8
  have hk' : p.1 < s.length:=by simpa using a7
  refine ⟨by show p.1 + 1≤_; omega,?_⟩
  change decide (((at_ s p.1).toNat : Int)≤126) = (n == 0 && (d == 0 && decide ((s.length : Int)≤16)) && (List.take (p.1 + 1) s).all dE)
  rw [eL hk',List.all_append,← Bool.and_assoc,← hp,a8]
  have h2 : (32 : Int)≤((at_ s p.1).toNat : Int):=by simpa using h
  have h' : 32≤(at_ s p.1).toNat:=by omega
  simp [dE,h']
  try omega
theorem Lj(k n d : Int)(s : List UInt8)(t : Int) : CallA Tryz.prog 199 [.agg [.d (.int .i64 k),.d (.int .i64 n),.d (.int .i64 d),.d (.str s)],.one (.d (.int .i64 t))] [] (.one (.d (.bool (dP k n d s t)))) []:=by
 refine enter af Tryz.func199 rfl (by decide +kernel) rfl fun hok w0 σ0 φ0 M=>?_
 clear hok
 repeat' (first|(refine h1H ?_; (refine h0H ?_; refine ab J J J J J J J J (IG _ _ _ _) J ?_))|refine wG ?_|(refine h1H ?_; (refine h4H ?_; refine aG J J J J (fun h=>?_) (fun h=>?_)))|(refine h5H ?_; refine ai J (fun h=>?_) (fun h=>?_)))
 all_goals (try (((simp_all [dP,ak,List.drop_eq_nil_of_le]) <;> exact wL); done))
 all_goals (by_cases hk : k = 3 <;> simp_all [dP,cy])
def dQ(op : Int) : Int:=if 4≤op∧op≤8 then 1 else if 9≤op∧op≤21 then 2 else if op = 22 then 3 else 0
def wO(v : Val) : Bool:=v.kind == 0 && (v.num == 0 && (v.den == 0 && v.str == []))
theorem ov{v : Val} : cT [.int .i64 v.kind,.int .i64 v.num,.int .i64 v.den,.str v.str] [.int .i64 0,.int .i64 0,.int .i64 0,.str []] = wO v:=by
 simp [cT,eqD,wO]
def cW(s : Scalar) : Bool :=
 if s.op = 1 then cy s.val.kind s.val.num s.val.den s.val.str && (!(s.val.kind == 0) && (s.name == [] && (s.args.length : Int) == 0))
 else if s.op = 2∨s.op = 3 then wO s.val && (s.args.length : Int) == 0
 else decide (0 < dQ s.op) && (wO s.val && (s.name == [] && (s.args.length : Int) == dQ s.op))
theorem Md(s : Scalar) : CallA Tryz.prog 177 [cF s] [] (.one (.d (.bool (cW s)))) []:=by
 refine enter af Tryz.func177 rfl (by decide +kernel) rfl fun hok w0 σ0 φ0 M=>?_
 clear hok
 repeat' (first|(refine h1H ?_; (refine h0H ?_; refine ab J J J J J J J J (IG _ _ _ _) J ?_))|refine wG ?_|(refine h1H ?_; (refine h4H ?_; refine aG J J J J (fun h=>?_) (fun h=>?_)))|(refine h5H ?_; refine ai J (fun h=>?_) (fun h=>?_)))
 all_goals (try rw [ov] at *)
 all_goals (try (((simp_all [cW,dQ,ov,ak,List.drop_eq_nil_of_le]) <;> exact wL); done))
mutual
def cS : Scalar→Bool
 | .mk o n v a=>cW (.mk o n v a) && gR a
def gR : List Scalar→Bool
 | []=>true
 | x::r=>cS x && gR r
end
theorem fI : ∀ {s : Scalar},cS s = (cW s && gR s.args)
 | .mk _ _ _ _=>by simp [cS,Scalar.args]
theorem c92(s : Scalar) : CallA Tryz.prog 92 [cF s] [] (.one (.d (.bool (cS s)))) []:=by
 induction s using Scalar.ind with
 | h s ih =>
   refine enter af Tryz.func92 rfl (by decide +kernel) rfl fun hok w0 σ0 φ0 M=>?_
   have h1:=(OkD.sl (hok.1 (.d (bA s.args)) (by simp))).1; clear hok; simp only [List.length_map] at h1
   repeat' (first|(refine h1H ?_; (refine h0H ?_; first|refine ab J J J J J J J J (Md _) J ?_|refine ab J J J J J J J J (ih _ (b9 wB)) J ?_))|refine wG ?_|(refine h5H ?_; first|refine ai J (fun h=>?_) (fun h=>?_)|refine bg 4 J [(1,_)] (q1Q J) (fun (k : Nat)=>[(3,.one (.d (.int .i64 k)))]) (fun (k : Nat)=>k≤s.args.length∧cW s = true∧gR s.args = gR (s.args.drop k)) (fun (k : Nat)=>s.args.length - k) 0 (q1Q J) ?_ (fun k ⟨hk,hp,hs⟩=>?_))|(show Exists _; refine Exists.intro (k + 1) ⟨?_,?_,wK,(q1Q J),(q1Q J)⟩))
   all_goals (try (((simp_all [fI,gR,ak,List.drop_eq_nil_of_le]) <;> exact wL); done))
end Go.Proofs.YtpejdgkaapnekaaGreat
namespace Go.Proofs.YtpejdgkaapnekaaGreat
open Go Go.Abs
theorem y7{f : Scalar→Int}{c : Int} : ∀ (l : List Scalar) (d : Int),c < l.foldl (fun d x=>max d (f x)) d↔(c < d∨∃ x∈l,c < f x)
 | [],d=>by simp
 | x::r,d=>by
   have ih:=y7 (f:=f) (c:=c) r (max d (f x))
   have hm : c < max d (f x)↔c < d∨c < f x:=by omega
   simp only [List.foldl_cons,List.mem_cons]
   rw [ih,hm]
   refine ⟨fun h=>?_,fun h=>?_⟩
   ·rcases h with (h | h) | ⟨y,hy,h⟩
    ·exact .inl h
    ·exact .inr ⟨x,.inl rfl,h⟩
    ·exact .inr ⟨y,.inr hy,h⟩
   ·rcases h with h | ⟨y,rfl | hy,h⟩
    ·exact .inl (.inl h)
    ·exact .inl (.inr h)
    ·exact .inr ⟨y,hy,h⟩
theorem oT : ∀ (m : Nat) (s : Scalar),il m s = true↔(m : Int) < cL m s
 | 0,s=>by simp [il,cL]
 | m + 1,s=>by
   have h:=y7 (f:=cL m) (c:=m) s.args 0
   simp only [il,cL,List.any_eq_true]
   have e : (∃ x,x∈s.args∧il m x = true)↔∃ x,x∈s.args∧(m : Int) < cL m x:=⟨fun ⟨x,h1,h2⟩=>⟨x,h1,(oT m x).1 h2⟩,fun ⟨x,h1,h2⟩=>⟨x,h1,(oT m x).2 h2⟩⟩
   rw [e]
   refine ⟨fun h2=>?_,fun h2=>?_⟩
   ·have:=h.2 (.inr h2); omega
   ·rcases h.1 (by omega) with h3 | h3
    ·omega
    ·exact h3
mutual
def aR : Scalar→List Scalar
 | .mk o n v a=>aH a ++ [.mk o n v a]
def aH : List Scalar→List Scalar
 | []=>[]
 | x::r=>aR x ++ aH r
end
theorem dV : ∀ {s : Scalar},aR s = aH s.args ++ [s]
 | .mk _ _ _ _=>by simp [aR,Scalar.args]
theorem y8{most : Int} : ∀ {l : List Scalar} {n : Int},most < n→dm l n most = n
 | [],n,h=>by simp [dm]
 | x::r,n,h=>by simp only [dm]; rw [if_neg (by omega)]
theorem qf{most : Int} : ∀ (l : List Scalar),(∀ x∈l,∀ m,0≤m→(((aR x).length : Int)≤m→c6 x m = (aR x).length)∧(m < ((aR x).length : Int)→m < c6 x m))→∀ n,1≤n→n≤most + 1 →
  (n + (aH l).length≤most→dm l n most = n + (aH l).length)∧(most < n + (aH l).length→most < dm l n most)
 | [],_,n,h1,h2=>by simp [dm,aH]
 | x::r,h,n,h1,h2=>by
   simp only [dm,aH,List.length_append]
   split
   ·rename_i hle
    obtain ⟨ha,hb⟩:=h x (by simp) (most - n) (by omega)
    have hr:=pO x (most - n) (by omega)
    have ih:=qf (most:=most) r (fun y hy=>h y (by simp [hy])) (n + c6 x (most - n)) (by omega) (by omega)
    by_cases hc : ((aR x).length : Int)≤most - n
    ·rw [ha hc] at ih ⊢
     refine ⟨fun h3=>?_,fun h3=>?_⟩
     ·rw [ih.1 (by omega)]; omega
     ·exact ih.2 (by omega)
    ·have hb':=hb (by omega)
     refine ⟨fun h3=>by omega,fun h3=>?_⟩
     rw [y8 (by omega)]; omega
   ·exact ⟨fun h3=>by omega,fun h3=>by omega⟩
theorem zX(s : Scalar) : ∀ m : Int,0≤m→(((aR s).length : Int)≤m→c6 s m = (aR s).length)∧(m < ((aR s).length : Int)→m < c6 s m):=by
 induction s using Scalar.ind with
 | h s ih =>
   intro m hm
   have:=qf (most:=m) s.args ih 1 (by omega) (by omega)
   rw [pN,dV]
   simp only [List.length_append,List.length_cons,List.length_nil]
   refine ⟨fun h=>?_,fun h=>this.2 (by omega)⟩
   rw [this.1 (by omega)]; omega
theorem CA(s : Scalar) : 64 < c6 s 64↔64 < ((aR s).length : Int):=by
 have h:=zX s 64 (by omega)
 refine ⟨fun h1=>?_,h.2⟩
 by_cases hc : ((aR s).length : Int)≤64
 ·rw [h.1 hc] at h1; exact h1
 ·omega
theorem tH : ∀ (l : List Scalar),(∀ x∈l,cS x = (aR x).all cW)→gR l = (aH l).all cW
 | [],_=>by simp [gR,aH]
 | x::r,h=>by
   simp only [gR,aH,List.all_append,h x (by simp),tH r fun y hy=>h y (by simp [hy])]
theorem wc(s : Scalar) : cS s = (aR s).all cW:=by
 induction s using Scalar.ind with
 | h s ih =>
   rw [fI,dV,tH s.args ih]
   simp [Bool.and_comm]
def kN : List Scalar→Int→Bool→Int
 | [],_,r=>if r then 0 else 2
 | x::l,n,r=>if 64 < n + 1 then 9 else kN l (n + 1) (r && cW x)
theorem qb : ∀ (l : List Scalar) (n : Int) (r : Bool),n≤64→(64 < n + (l.length : Int)→kN l n r = 9)∧(¬ 64 < n + (l.length : Int)→kN l n r = if r && l.all cW then 0 else 2)
 | [],n,r,hn=>by
   simp only [kN,List.length_nil,List.all_nil,Bool.and_true]
   exact ⟨fun h=>absurd h (by omega),fun _=>trivial⟩
 | x::l,n,r,hn=>by
   simp only [kN,List.length_cons,List.all_cons]
   by_cases h : 64 < n + 1
   ·rw [if_pos h]
    exact ⟨fun _=>rfl,fun h2=>absurd h2 (by omega)⟩
   ·rw [if_neg h]
    have ih:=qb l (n + 1) (r && cW x) (by omega)
    rw [Bool.and_assoc] at ih
    exact ⟨fun h2=>ih.1 (by omega),fun h2=>ih.2 (by omega)⟩
def ec(s : Scalar) : Int:=if il 12 s then 10 else kN (aR s) 0 true
theorem Eo(s : Scalar) : ec s = if 12 < cL 12 s then 10 else if 64 < c6 s 64 then 9 else if cS s then 0 else 2:=by
 have h1:=oT 12 s
 have h2:=CA s
 have h3:=qb (aR s) 0 true (by omega)
 unfold ec
 rw [wc]
 by_cases hd : il 12 s = true
 ·have hd' : 12 < cL 12 s:=h1.1 hd
  rw [if_pos hd,if_pos hd']
 ·have hd' : ¬ 12 < cL 12 s:=fun h=>hd (h1.2 h)
  rw [if_neg hd,if_neg hd']
  by_cases hc : 64 < c6 s 64
  ·rw [if_pos hc]; have:=h2.1 hc; exact h3.1 (by omega)
  ·rw [if_neg hc]
   have hn : ¬ 64 < ((aR s).length : Int):=fun h=>hc (h2.2 h)
   rw [h3.2 (by omega),Bool.true_and]
end Go.Proofs.YtpejdgkaapnekaaGreat
namespace Go.Proofs.YtpejdgkaapnekaaGreat
open Go Go.Abs
attribute [local irreducible] aa OkC aj av al aB
set_option maxRecDepth 10000
def br{α β : Type}(F : α→β→Bool×α) : List β→α→Bool×α
 | [],a=>(true,a)
 | x::l,a=>if (F a x).1 then br F l (F a x).2 else (false,(F a x).2)
def cQ{α β : Type}(F : α→β→Bool×α)(ok : α→β→Prop) : List β→α→Prop
 | [],_=>True
 | x::l,a=>ok a x∧((F a x).1 = true→cQ F ok l (F a x).2)
theorem eC{α β : Type}{F : α→β→Bool×α} : ∀ {l m : List β} {a : α},br F (l ++ m) a = if (br F l a).1 then br F m (br F l a).2 else br F l a
 | [],_,_=>by simp [br]
 | x::l,m,a=>by
   simp only [List.cons_append,br]
   split
   ·exact eC
   ·simp
theorem mw{α β : Type}{F : α→β→Bool×α}{ok : α→β→Prop} : ∀ {l m : List β} {a : α},cQ F ok (l ++ m) a→cQ F ok l a∧((br F l a).1 = true→cQ F ok m (br F l a).2)
 | [],_,_,h=>⟨trivial,fun _=>h⟩
 | x::l,m,a,h=>by
   simp only [List.cons_append,cQ] at h
   simp only [cQ,br]
   refine ⟨⟨h.1,fun h1=>(mw (h.2 h1)).1⟩,fun h1=>?_⟩
   by_cases hx : (F a x).1 = true
   ·rw [if_pos hx] at h1 ⊢; exact (mw (h.2 hx)).2 h1
   ·rw [if_neg hx] at h1; simp at h1
theorem q9 : ∀ {l : List Scalar} {x : Scalar},aH (l ++ [x]) = aH l ++ aR x
 | [],x=>by simp [aH]
 | y::r,x=>by simp [aH,q9,List.append_assoc]
theorem zQ{l : List Scalar}{k : Nat}(h : k < l.length) : aH (l.take (k + 1)) = aH (l.take k) ++ aR (at_ l k):=by
 rw [eL h,q9]
theorem ra{l : List Scalar}{k : Nat}(h : k < l.length) : aH (l.drop k) = aR (at_ l k) ++ aH (l.drop (k + 1)):=by
 rw [ak h]; rfl
theorem DU{α : Type}{F : α→Scalar→Bool×α}{l : List Scalar}{k : Nat}(h : k≤l.length){m : List Scalar}{a0 a : α}(hr : br F (aH (l.take k)) a0 = (true,a)) : br F (aH l ++ m) a0 = br F (aH (l.drop k) ++ m) a:=by
 have e : aH l = aH (l.take k) ++ aH (l.drop k):=by
  have h2 : ∀ (x y : List Scalar),aH (x ++ y) = aH x ++ aH y:=by
   intro x
   induction x with
   | nil=>intro y; simp [aH]
   | cons c r ih=>intro y; simp [aH,ih,List.append_assoc]
  rw [← h2,List.take_append_drop]
 rw [e,List.append_assoc,eC,hr]
 simp
theorem MZ{α : Type}(E : α→Sto)(hE : FamW E)(F : α→Scalar→Bool×α)(ok : α→Scalar→Prop)
  (hY : ∀ a x,ok a x→YieldA Tryz.prog 1000000 [cF x] (E a) (.one (.d (.bool (F a x).1))) (E (F a x).2)) (s : Scalar) :
  ∀ a0,cQ F ok (aR s) a0→CallA Tryz.prog 217 [cF s,.one (.yl 1000000)] (E a0) (.one (.d (.bool (br F (aR s) a0).1))) (E (br F (aR s) a0).2):=by
 induction s using Scalar.ind with
 | h s ih =>
   intro a0 hok0
   rw [dV] at hok0 ⊢
   obtain ⟨hok1,hok2⟩:=mw hok0
   refine enter af Tryz.func217 rfl (by decide +kernel) rfl fun hok w0 σ0 φ0 M=>?_
   have h1:=(OkD.sl (hok.1 (.d (bA s.args)) (by simp))).1; clear hok; simp only [List.length_map] at h1
   repeat' (first|(refine h1H ?_; (refine M0 ?_; refine Iu [] 0 (hE.big _) (hE.ins _) J J J J J J J J ?_))|refine wG ?_)
   refine G6 hE (fun (p : Nat×α)=>p.2) [(0,_)] [(1,_),(2,_),(8,_),(9,_)] (q4Q rfl rfl rfl rfl) (fun (p : Nat×α)=>[(10,.one (.d (.int .i64 (p.1 : Int))))])
    (fun p=>p.1≤s.args.length∧br F (aH (s.args.take p.1)) a0 = (true,p.2)∧cQ F ok (aH (s.args.drop p.1)) p.2) (fun p=>s.args.length - p.1) (0,a0) rfl rfl (q1Q rfl) ?_ (fun p ⟨hk,hr,ho⟩=>?_)
   ·exact ⟨Nat.zero_le _,rfl,hok1⟩
   ·repeat' (first|(refine h1H ?_; (refine M3 ?_; refine E0 af [(0,_)] 1 (hE.big _) (hE.ins _) J J J J J J J ?_))|refine wG ?_|(refine h5H ?_; refine ai J (fun h=>?_) (fun h=>?_)))
    ·have hk' : p.1 < s.args.length:=by simpa using h
     rw [ra hk'] at ho
     obtain ⟨ho1,ho2⟩:=mw ho
     have hrun : br F (aH s.args ++ [s]) a0 = if (br F (aR (at_ s.args p.1)) p.2).1 then br F (aH (s.args.drop (p.1 + 1)) ++ [s]) (br F (aR (at_ s.args p.1)) p.2).2 else br F (aR (at_ s.args p.1)) p.2:=by
      rw [DU (F:=F) hk (m:=[s]) hr,ra hk',List.append_assoc]; exact eC
     refine Ay [(1,_),(0,_)] (ih (at_ s.args p.1) (b9 hk') p.2 ho1) (hE.big _) (hE.big _) (hE.ins _) (hE.ins _) (hE.lp _) (hE.lp _) rfl rfl rfl rfl rfl rfl rfl (by simp [c7,cO,cF,dR,bB,GC (hE.lp _)]) rfl rfl ?_
     repeat' (first|refine wG ?_|(refine h5H ?_; refine ai J (fun h=>?_) (fun h=>?_)))
     ·have hb' : ¬ (br F (aR (at_ s.args p.1)) p.2).1 = true:=by simpa using h
      rw [if_neg hb'] at hrun
      refine pe [(1,_),(0,_)] (.inl rfl) rfl rfl rfl ?_ rfl (hE.big _) (hE.nd _)
      rw [hrun]
      refine ⟨?_,rfl⟩
      simp at hb'
      rw [hb']
     ·have hb' : (br F (aR (at_ s.args p.1)) p.2).1 = true:=by simpa using h
      refine ⟨(p.1 + 1,(br F (aR (at_ s.args p.1)) p.2).2),[(1,_),(0,_)],⟨by show p.1 + 1≤_; omega,?_,ho2 hb'⟩,by show s.args.length - (p.1 + 1) < s.args.length - p.1; omega,rfl,rfl,ag rfl aU,ag rfl aU,ag rfl (q3Q rfl rfl rfl)⟩
      show br F (aH (s.args.take (p.1 + 1))) a0 = _
      rw [zQ hk',eC,hr]
      simp only [if_true]
      rw [← hb']
    ·have hk' : p.1 = s.args.length:=by
      have : ¬ p.1 < s.args.length:=by simpa using h
      omega
     rw [hk',List.take_length] at hr
     rw [hr] at hok2
     have hf : br F (aH s.args ++ [s]) a0 = F p.2 s:=by
      rw [eC,hr]
      simp only [if_true,br]
      split
      ·rename_i hb; rw [← hb]
      ·rename_i hb; simp at hb; rw [← hb]
     refine FH [(0,_)] (hY p.2 s (hok2 rfl).1) (hE.big _) (hE.big _) (hE.ins _) (hE.ins _) (hE.lp _) (hE.lp _) rfl rfl rfl rfl rfl rfl rfl rfl (by simp [c7,cO,cF,dR,bB]) rfl rfl ?_
     repeat' (first|refine wG ?_)
     refine pe [(0,_)] (.inl rfl) rfl rfl rfl ?_ rfl (hE.big _) (hE.nd _)
     rw [hf]
     exact ⟨rfl,rfl⟩
theorem FC{α : Type}(E : α→Sto)(hE : FamW E)(F : α→Scalar→Bool×α)(ok : α→Scalar→Prop)
  (hY : ∀ a x,ok a x→YieldA Tryz.prog 1000000 [cF x] (E a) (.one (.d (.bool (F a x).1))) (E (F a x).2)) (s : Scalar) (a0 : α) (h0 : cQ F ok (aR s) a0) :
  CallA Tryz.prog 216 [.one (.yl 1000000),.one (.d (.ptr (pC s)))] (E a0) (.tup []) (E (br F (aR s) a0).2):=by
 refine enter af Tryz.func216 rfl (by decide +kernel) rfl fun hok w0 σ0 φ0 M=>?_
 clear hok
 repeat' (first|refine wG ?_)
 refine Ay [] (MZ E hE F ok hY s a0 h0) (hE.big _) (hE.big _) (hE.ins _) (hE.ins _) (hE.lp _) (hE.lp _) rfl rfl rfl rfl rfl rfl rfl (by simp [c7,cO,cF,dR,bB,GC (hE.lp _)]) rfl rfl ?_
 repeat' (first|refine wG ?_)
 exact pe [] (.inr rfl) rfl rfl rfl ⟨rfl,rfl⟩ rfl (hE.big _) (hE.nd _)
theorem FB(s : Scalar) : CallA Tryz.prog 162 [cF s] [] (.one (.d (.fn 216 [.ptr (pC s)]))) []:=by
 refine enter af Tryz.func162 rfl (by decide +kernel) rfl fun hok w0 σ0 φ0 M=>?_
 clear hok
 repeat' (first|refine wG ?_)
 all_goals first | rfl | trace_state
end Go.Proofs.YtpejdgkaapnekaaGreat
