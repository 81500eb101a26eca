import Derived.Test.YtpejdgkaapnekaaGreatRows
import Derived.Deep.Slices
import Derived.Deep.DeepHandedRow
import Derived.ReadAgain
import Derived.MapPlaces
import Derived.WalkKit
import Derived.ProofKit
import Derived.OpenShut
import Derived.JoinedCond
import Derived.Test.YtpejdgkaapnekaaGreatIP14
import Derived.Test.YtpejdgkaapnekaaGreatIP13
set_option linter.unusedVariables false
set_option linter.unusedSimpArgs false
set_option maxHeartbeats 1000000
namespace Go.Proofs.YtpejdgkaapnekaaGreat
open Go Go.Abs
open Go.ChangeShapes Go.WideShapes Go.ChangeAt Go.RowKit
section
variable {H:Type} {en:TypeId×Value→H} {W:World}
theorem AI(d:DataW H):1≤Rows.uptoBulk d:=by
 cases d with
 | lit l=>cases l<;>simp[Rows.uptoBulk]
 | _=>simp[Rows.uptoBulk]
theorem pj{d:DataW H}:∀ {l:List (DataW H)},d∈l→Rows.uptoBulk d≤Rows.uptoBulkAll l
 | [],h=>by simp at h
 | x::r,h=>by
   simp only[Rows.uptoBulkAll]
   rcases Hm.1 h with rfl|h
   ·omega
   ·have:=pj h;omega
theorem tZ:∀ (l:List (DataW H)),l.length≤Rows.uptoBulkAll l
 | []=>by simp[Rows.uptoBulkAll]
 | x::r=>by have:=AI x;have:=tZ r;simp only[Rows.uptoBulkAll,Ho];omega
def sg(W:World):Sig:=fun b=>match W.heap[b]? with|some (.cells cs _ _)=>some cs|_=>none
theorem vW{b:Nat}{cs:Array Value}(h:sg W b=some cs):∃ t f,W.heap[b]?=some (.cells cs t f):=by
 unfold sg at h
 split at h
 ·rename_i c t f hh;cases h;exact⟨t,f,hh⟩
 ·cases h
theorem Df(φ:Pl):HInv (sg W) φ [] W:=⟨fun b cs h=>vW h,fun i e h=>by simp[Abs.look] at h,fun i i' e e' p p' h=>by simp[Abs.look] at h⟩
def Rd(en:TypeId×Value→H)(W:World)(N:Nat)(t:TypeId){α:Type}(f:α→List D)(Q:α→Prop):Prop :=
 ∀ (fuel:Nat) (cs:List Value) (x:DataW H×List MemPlace),DataW.trod en Tryz.prog W 0 (fun _=>true) true fuel t cs=some x→Rows.uptoBulk x.1≤N→∃ a:α,Q a∧All2 (Rep (sg W)) (f a) cs
def yes{α:Type}(_:α):Prop:=True
theorem Rd.mono{N M:Nat}{t:TypeId}{α:Type}{f:α→List D}{Q:α→Prop}(h:Rd en W N t f Q)(hm:M≤N):Rd en W M t f Q:=fun fuel cs x hx hb=>h fuel cs x hx (by omega)
theorem jX{N:Nat}{t:TypeId}(ht:Tryz.prog.underlying t=some (.int .i64)):Rd en W N t (fun n:Int=>[.int .i64 n]) yes:=by
 intro fuel cs x h _
 obtain⟨n,rfl,_,hw⟩:=DataW.trod_int ht h
 have hw':=bounds_i64 hw
 refine⟨n,trivial,.int ?_,trivial⟩
 simp only[inR,IntKind.min,IntKind.max,IntKind.signed,IntKind.bits,if_true]
 omega
theorem ua{N:Nat}{t:TypeId}(hN:N≤1048576)(ht:Tryz.prog.underlying t=some .string):Rd en W N t (fun s:List UInt8=>[.str s]) yes:=by
 intro fuel cs x h hb
 obtain⟨s,rfl,rfl,_⟩:=DataW.trod_string ht h
 simp only[Rows.uptoBulk] at hb
 have:=Rep.str (σ:=sg W) (s:=s.data.toList) (by omega)
 refine⟨s.data.toList,trivial,?_,trivial⟩
 simpa using this
def xH{α:Type}(N:Nat)(Q:α→Prop)(l:List α):Prop:=l.length≤N∧∀ x∈l,Q x
theorem jY{N k b:Nat}{t e:TypeId}{α:Type}[Inhabited α]{f:α→List D}{Q:α→Prop}(hN:N≤1048575)(hb:b≤1000)(hk:0<k)(ht:Tryz.prog.underlying t=some (.slice e))(hc:Tryz.prog.cellsOf e=k)(he:Rd en W N e f Q):Rd en W (N+1) t (fun l:List α=>[.sl k b (l.map f)]) (xH N Q):=by
 intro fuel cs x h hbk
 rcases Deep.open_slice ht h with⟨rfl,rfl⟩|⟨a,len,cap,m,n,Dd,Pl,rfl,_,hl,_,hm,rfl,hel⟩
 ·refine⟨[],⟨by simp,by simp⟩,?_,trivial⟩
  exact .sl (fun _ _=>undef) (by simp) (by simp) (by simp) (by simp) (by simp) (by simp)
 ·simp only[if_true] at hm
  subst hm
  rw[hc] at hel
  simp only[Rows.uptoBulk] at hbk
  have hlen:len≤N:=by
   have:=tZ ((List.range len).map Dd)
   simp only[G2,List.length_range] at this
   omega
  have hpart:∀ i,i<len→Rows.uptoBulk (Dd i)≤N:=by
   intro i hi
   have:=pj (d:=Dd i) (l:=(List.range len).map Dd) (Hh.2 ⟨i,List.mem_range.2 hi,rfl⟩)
   omega
  obtain⟨g,hg⟩:=Deep.choose_lt (n:=len) (p:=fun i (y:α)=>Q y∧∃ cs',W.cells? 0 (a.add (i*k)) k=some cs'∧All2 (Rep (sg W)) (f y) cs') (fun i hi=>by
   obtain⟨cs',h1,h2⟩:=hel i (by omega)
   obtain⟨y,hq,hy⟩:=he _ _ _ h2 (hpart i hi)
   exact⟨y,hq,cs',h1,hy⟩)
  have hcell:∀ i,i<len→∀ j,j<k→∃ v,W.cell? ((a.add (i*k)).add j)=some v∧∀ d,(f (g i))[j]?=some d→Rep (sg W) d v:=by
   intro i hi j hj
   obtain⟨_,cs',h1,h2⟩:=hg i hi
   obtain⟨_,h3,h4⟩:=World.cells?_some h1
   have h5:cs'[j]?=some (cs'[j]'(by omega)):=He (by omega)
   refine⟨_,(h4 j hj).trans h5,fun d hd=>?_⟩
   obtain⟨v,hv,hr⟩:=h2.get hd
   rw[h5] at hv;cases hv;exact hr
  have hfl:∀ i,i<len→(f (g i)).length=k:=by
   intro i hi
   obtain⟨_,cs',h1,h2⟩:=hg i hi
   rw[h2.length];exact (World.cells?_some h1).2.1
  have hadd:∀ i j,i<len→j<k→a.spot=none→((a.add (i*k)).add j)=⟨a.block,a.off+i*k+j,none⟩:=by
   intro i j _ _ hs
   obtain⟨B,o,sp⟩:=a
   simp only at hs
   subst hs
   by_cases h1:i*k=0<;>by_cases h2:j=0<;>simp[Addr.add,h1,h2]
  have hA:0<len→∃ cells:Array Value,a.spot=none∧sg W a.block=some cells:=by
   intro h0
   obtain⟨v,hv,_⟩:=hcell 0 h0 0 hk
   have e0:((a.add (0*k)).add 0)=a:=by simp[Addr.add]
   rw[e0] at hv
   unfold World.cell? at hv
   unfold sg
   split at hv
   ·rename_i c t2 f2 hh
    rw[hh]
    split at hv
    ·cases hv
    ·rename_i hs
     exact⟨c,by simpa using hs,rfl⟩
   ·cases hv
  refine⟨(List.range len).map g,⟨by simpa using hlen,fun y hy=>?_⟩,?_,trivial⟩
  ·obtain⟨i,hi,rfl⟩:=Hh.1 hy
   exact (hg i (List.mem_range.1 hi)).1
  have hll:(((List.range len).map g).map f).length=len:=by simp
  have key:Rep (sg W) (.sl k b (((List.range len).map g).map f)) (.slice (some a) (((List.range len).map g).map f).length m):=by
   refine .sl (fun i j=>(W.cell? ((a.add (i*k)).add j)).getD undef) (by rw[hll];exact hl) (by rw[hll];omega) (by
    rw[hll]
    have:len*b≤1048576*1000:=Nat.mul_le_mul (by omega) hb
    omega) (fun x hx=>?_) (fun h0=>?_) (fun i j x d hx hd=>?_)
   ·simp only[Hh,List.mem_range] at hx
    obtain⟨y,⟨i,hi,rfl⟩,rfl⟩:=hx
    exact hfl i hi
   ·rw[hll] at h0
    obtain⟨cells,hs,hsg⟩:=hA h0
    refine⟨a.block,a.off,cells,?_,hsg,fun i j hi hj=>?_⟩
    ·obtain⟨B,o,sp⟩:=a;simp only at hs;subst hs;rfl
    ·rw[hll] at hi
     obtain⟨v,hv,_⟩:=hcell i hi j hj
     rw[hv]
     rw[hadd i j hi hj hs] at hv
     obtain⟨t2,f2,hh⟩:=vW hsg
     simp only[World.cell?,hh] at hv
     simpa using hv
   ·simp only[HP,Option.map_eq_some_iff] at hx
    obtain⟨y,⟨i',hi',rfl⟩,rfl⟩:=hx
    have hi:i<len:=by
     have:=(G7.1 hi').1
     simpa using this
    have hii:i'=i:=by simpa[List.getElem?_range hi] using hi'.symm
    subst hii
    have hj:j<k:=by rw[← hfl i' hi];exact (G7.1 hd).1
    obtain⟨v,hv,hr⟩:=hcell i' hi j hj
    rw[hv]
    exact hr d hd
  rw[hll] at key
  exact key
theorem eG{R:D→Value→Prop}{a b:List D}{cs:List Value}{o n m:Nat}(h1:All2 R a ((cs.drop o).take n))(h2:All2 R b ((cs.drop (o+n)).take m)):All2 R (a++b) ((cs.drop o).take (n+m)):=by
 rw[List.take_add,List.drop_drop]
 exact h1.append h2
theorem cN{N:Nat}{t u:TypeId}{fs:Array Field}{fuel:Nat}{cs:List Value}{x:DataW H×List MemPlace}(ht:Tryz.prog.underlying t=some (.struct fs))(h:DataW.trod en Tryz.prog W 0 (fun _=>true) true fuel t cs=some x)(hb:Rows.uptoBulk x.1≤N+1)
  (i:Nat) {fd:Field} (hf:fs[i]?=some fd) {α:Type} {f:α→List D} {Q:α→Prop} (hr:Rd en W N fd.type f Q) {c:Nat} (hc:Tryz.prog.cellsOf fd.type=c):∃ a,Q a∧All2 (Rep (sg W)) (f a) ((cs.drop fd.offset).take c):=by
 subst hc
 obtain⟨xs,n,_,rfl,_,hl,hx⟩:=DataW.trod_struct ht h
 have h2:=hx i fd hf
 have hi:i<xs.length:=by rw[hl];exact (Hk.1 hf).1
 rw[He hi] at h2
 refine hr _ _ _ h2 ?_
 have:=pj (d:=(xs[i]).1) (l:=xs.map (·.1)) (Hh.2 ⟨_,List.getElem_mem hi,rfl⟩)
 simp only[Rows.uptoBulk] at hb
 omega
theorem ny{t:TypeId}{fs:Array Field}{fuel:Nat}{cs:List Value}{x:DataW H×List MemPlace}(ht:Tryz.prog.underlying t=some (.struct fs))(h:DataW.trod en Tryz.prog W 0 (fun _=>true) true fuel t cs=some x):cs.length=Tryz.prog.cellsOf t:=by
 obtain⟨_,_,_,_,hl,_⟩:=DataW.trod_struct ht h
 exact hl
theorem nz:Tryz.prog.cellsOf 3=1:=by kernel_rfl
theorem qe:Tryz.prog.cellsOf 2=1:=by kernel_rfl
theorem ub:Tryz.prog.cellsOf 9=1:=by kernel_rfl
theorem vX:Tryz.prog.cellsOf 28=4:=by kernel_rfl
theorem vY:Tryz.prog.cellsOf 82=2:=by kernel_rfl
theorem vZ:Tryz.prog.cellsOf 53=3:=by kernel_rfl
theorem B1:Tryz.prog.cellsOf 22=1:=by kernel_rfl
theorem B2:Tryz.prog.cellsOf 23=1:=by kernel_rfl
theorem B3:Tryz.prog.cellsOf 24=1:=by kernel_rfl
theorem B4:Tryz.prog.cellsOf 26=3:=by kernel_rfl
theorem nT{R:D→Value→Prop}{a:List D}{cs:List Value}{n:Nat}(h:All2 R a ((cs.drop 0).take n))(hl:cs.length=n):All2 R a cs:=by
 rw[List.drop_zero,G1 (by omega)] at h;exact h
theorem Dg{N:Nat}(hN:N≤1048575):Rd en W (N+1) 28 (fun v:Val=>[.int .i64 v.kind,.int .i64 v.num,.int .i64 v.den,.str v.str]) yes:=by
 intro fuel cs x h hb
 obtain⟨k,_,hk⟩:=cN (u:=0) Tryz.underlying28 h hb 0 rfl (jX Tryz.underlying3) nz
 obtain⟨n,_,hn⟩:=cN (u:=0) Tryz.underlying28 h hb 1 rfl (jX Tryz.underlying2) qe
 obtain⟨d,_,hd⟩:=cN (u:=0) Tryz.underlying28 h hb 2 rfl (jX Tryz.underlying2) qe
 obtain⟨s,_,hs⟩:=cN (u:=0) Tryz.underlying28 h hb 3 rfl (ua (by omega) Tryz.underlying9) ub
 exact⟨⟨k,n,d,s⟩,trivial,nT (eG (eG (eG hk hn) hd) hs) ((ny Tryz.underlying28 h).trans vX)⟩
theorem Dh{N:Nat}(hN:N≤1048575):Rd en W (N+1) 53 aN yes:=by
 intro fuel cs x h hb
 obtain⟨s,_,hs⟩:=cN (u:=0) Tryz.underlying53 h hb 0 rfl (ua (by omega) Tryz.underlying9) ub
 obtain⟨k,_,hk⟩:=cN (u:=0) Tryz.underlying53 h hb 1 rfl (jX Tryz.underlying3) nz
 obtain⟨n,_,hn⟩:=cN (u:=0) Tryz.underlying53 h hb 2 rfl (jX Tryz.underlying3) nz
 exact⟨⟨s,k,n⟩,trivial,nT (eG (eG hs hk) hn) ((ny Tryz.underlying53 h).trans vZ)⟩
theorem B5{N:Nat}(hN:N≤1048575):Rd en W (N+1) 82 aL yes:=by
 intro fuel cs x h hb
 obtain⟨s,_,hs⟩:=cN (u:=0) Tryz.underlying82 h hb 0 rfl (ua (by omega) Tryz.underlying9) ub
 obtain⟨k,_,hk⟩:=cN (u:=0) Tryz.underlying82 h hb 1 rfl (jX Tryz.underlying3) nz
 exact⟨⟨s,k⟩,trivial,nT (eG hs hk) ((ny Tryz.underlying82 h).trans vY)⟩
theorem B6:Tryz.prog.cellsOf 37=1:=by kernel_rfl
theorem B7:Tryz.prog.cellsOf 54=1:=by kernel_rfl
theorem wa:Tryz.prog.cellsOf 56=2:=by kernel_rfl
def AJ(N:Nat)(c:Cell):Prop:=c.at'.length≤N∧c.vals.length≤N
theorem B8{N:Nat}(hN:N≤1048573):Rd en W (N+3) 56 ay (AJ (N+1)):=by
 intro fuel cs x h hb
 obtain⟨a,qa,ha⟩:=cN (u:=0) Tryz.underlying56 h hb 0 rfl (jY (f:=aH) (N:=N+1) (k:=1) (b:=8) (by omega) (by omega) (by omega) Tryz.underlying37 nz (jX Tryz.underlying3)) B6
 obtain⟨v,qv,hv⟩:=cN (u:=0) Tryz.underlying56 h hb 1 rfl (jY (f:=bW) (N:=N+1) (k:=4) (b:=40) (by omega) (by omega) (by omega) Tryz.underlying54 vX (Dg (by omega))) B7
 exact⟨⟨a,v⟩,⟨qa.1,qv.1⟩,nT (eG ha hv) ((ny Tryz.underlying56 h).trans wa)⟩
def F4(N:Nat)(a:Arr):Prop:=xH N yes a.dims∧xH N yes a.attrs∧xH N (AJ N) a.cells
theorem zd{N:Nat}(hN:N≤1048571):Rd en W (N+5) 26 ze (F4 (N+3)):=by
 intro fuel cs x h hb
 obtain⟨d,qd,hd⟩:=cN (u:=0) Tryz.underlying26 h hb 0 rfl (jY (f:=aN) (N:=N+3) (k:=3) (b:=32) (by omega) (by omega) (by omega) Tryz.underlying22 vZ (Dh (by omega))) B1
 obtain⟨a,qa,ha⟩:=cN (u:=0) Tryz.underlying26 h hb 1 rfl (jY (f:=aL) (N:=N+3) (k:=2) (b:=24) (by omega) (by omega) (by omega) Tryz.underlying23 vY (B5 (by omega))) B2
 obtain⟨c,qc,hc⟩:=cN (u:=0) Tryz.underlying26 h hb 2 rfl (jY (f:=ay) (N:=N+3) (k:=2) (b:=48) (by omega) (by omega) (by omega) Tryz.underlying24 wa (B8 (by omega))) B3
 exact⟨⟨d,a,c⟩,⟨qd,qa,qc.1,fun x hx=>by have:=qc.2 x hx;unfold AJ at *;omega⟩,nT (eG (eG hd ha) hc) ((ny Tryz.underlying26 h).trans B4)⟩
theorem qf{P:Program}{t:TypeId}{fs:Array Field}{r:Reach}{base:Nat}{v:Value}(ht:P.underlying t=some (.struct fs))(h:Value.okWide P W r base t v):∃ cs:List Value,v=.agg cs.toArray:=by
 unfold Value.okWide at h
 rw[ht] at h
 obtain⟨cs,rfl,_⟩:=h
 exact⟨cs.toList,by simp⟩
theorem uc{W':World}:∀ {ts:List TypeId} {vs:List Value} {ds:List (DataW H)} {ps:List MemPlace},DataW.TrodAll en Tryz.prog W 0 (fun _=>true) true ts vs ds ps→(∀ p∈ps,W.sameAt W' p)→DataW.TrodAll en Tryz.prog W' 0 (fun _=>true) true ts vs ds ps
 | [],[],[],_,h,_=>h
 | _::_,_::_,_::_,_,⟨p,q,⟨n,h1⟩,h2,e⟩,hs=>⟨p,q,⟨n,DataW.trod_carry n _ _ _ h1 fun x hx=>hs x (by rw[e];exact List.mem_append_left _ hx)⟩,uc h2 fun x hx=>hs x (by rw[e];exact List.mem_append_right _ hx),e⟩
theorem own:ownKnob Tryz.prog.godebug=none:=by kernel_rfl
theorem F5:Kids Tryz.prog (·<Tryz.prog.types.size):=kids_rows (by kernel_rfl) (by kernel_rfl)
set_option maxRecDepth 100000 in
theorem F6:∀ t e,t<Tryz.prog.types.size→Tryz.prog.underlying t=some (.slice e)→0<Tryz.prog.cellsOf e:=slices_full_of Tryz.prog (by kernel_rfl)
theorem r9{W':World}(h:Kept (MOf (fun _=>none) []) W W'):∀ b,b<W.heap.size→W'.heap[b]?=W.heap[b]?:=fun b hb=>h.block b hb (by rintro ⟨id,e,p,h1,_⟩;simp[Abs.look] at h1)
theorem B9{W':World}(h:Kept (MOf (fun _=>none) []) W W')(may:MemPlace→Prop):W.keptBut W' may :=
 ⟨h.os,h.output,fun i hi=>by rw[r9 h i hi];exact (World.keptBut_refl W may).2.2 i hi⟩
theorem AK{W':World}(h:Kept (MOf (fun _=>none) []) W W'){p:MemPlace}(hp:p.block<W.heap.size):W.sameAt W' p:=by
 have hb:=r9 h p.block hp
 cases p with
 | cell b off=>show W'.cell? ⟨b,off,none⟩=W.cell? ⟨b,off,none⟩;unfold World.cell?;rw[show W'.heap[b]?=W.heap[b]? from hb]
 | map b=>exact hb
theorem jD{σ:Sig}{φ:Pl}{sto:Sto}:∀ {ds:List D} {vs:List Value},All2 (Rep σ) ds vs→All2 (RepC σ φ sto) (ds.map .d) vs
 | [],[],_=>trivial
 | d::r,v::vs,h=>⟨.d h.1,jD h.2⟩
 | [],_::_,h=>h.elim
 | _::_,[],h=>h.elim
theorem tsz:Nat.blt 300 Tryz.prog.types.size=true:=by kernel_rfl
theorem few{t:Nat}(h:t≤300):t<Tryz.prog.types.size:=by have:=HT.mp tsz;omega
theorem AL{W':World}{base:Nat}{sp:Nat→Bool}{held:Bool}(b:Bool):DataW.Trod en Tryz.prog W' base sp held 4 (.bool b) (.lit (.bool b)) []:=⟨1,by simp[DataW.trod,Value.cells,Tryz.underlying4]⟩
end
end Go.Proofs.YtpejdgkaapnekaaGreat
namespace Go.Proofs.YtpejdgkaapnekaaGreat
open Go Go.Abs
def kR(k:Nat)(d:Int)(x:List Int):List Int:=x.set k (at_ x k+d)
def iT(k:Nat)(d:Int)(c:Cell):Cell:=⟨kR k d c.at',c.vals⟩
theorem tW:∀ {k:Nat} {d:Int} {x y:List Int},k<x.length→x.length=y.length→aT (kR k d x) (kR k d y)=aT x y
 | _,d,[],_,h,_=>by simp at h
 | _,d,_::_,[],_,h=>by simp at h
 | 0,d,a::x,b::y,_,_=>by
   show aT ((a+d)::x) ((b+d)::y)=_
   simp only[aT]
   by_cases h1:a<b
   ·rw[if_pos h1,if_pos (by omega)]
   ·rw[if_neg h1,if_neg (by omega)]
    by_cases h2:b<a
    ·rw[if_pos h2,if_pos (by omega)]
    ·rw[if_neg h2,if_neg (by omega)]
 | k+1,d,a::x,b::y,h,h'=>by
   have ih:=tW (k:=k) (d:=d) (x:=x) (y:=y) (by simpa using h) (by simpa using h')
   show aT (a::kR k d x) (b::kR k d y)=_
   simp only[aT,ih]
theorem vT{k:Nat}{d:Int}{x:List Int}:(kR k d x).length=x.length:=by simp[kR]
theorem Da{k:Nat}{d:Int}{x:List Int}{i:Nat}(h:i<x.length):at_ (kR k d x) i=if i=k then at_ x k+d else at_ x i:=pG h
def Db(d:Dim)(b:Int×Int):Dim:=⟨d.name,max d.lo b.1,min d.hi b.2⟩
def mi(ds:List Dim)(lo hi:List Int):List Dim:=ds.zipWith Db (lo.zip hi)
def okD(d:Dim):Bool:=!decide (dU d.hi<d.lo)
def Dc(a:Arr)(lo hi:List Int):Option Arr×Int :=
 if dm a.dims a.attrs a.cells≠0 then (none,2)
 else if (lo.length:Int)≠a.dims.length∨(hi.length:Int)≠a.dims.length then (none,13)
 else if !(mi a.dims lo hi).all okD then (none,3)
 else dH (mi a.dims lo hi) a.attrs (a.cells.filter fun c=>dL (mi a.dims lo hi) c.at')
def byF(a b:Arr)(k:Nat):Int:=(at_ a.dims k).hi-(at_ b.dims k).lo+1
def jU(a b:Arr)(k:Nat):Dim:=⟨(at_ b.dims k).name,(at_ a.dims k).lo,(at_ b.dims k).hi+byF a b k⟩
structure Cat (a b:Arr) (name:List UInt8) (k:Nat):Prop where
 oka:OkA a.dims a.attrs a.cells
 okb:OkA b.dims b.attrs b.cells
 hk:k<a.dims.length
 nm:(at_ a.dims k).name=name
 bef:∀ i,i<k→(at_ a.dims i).name≠name
 len:a.dims.length=b.dims.length
 nms:∀ i,i<a.dims.length→(at_ a.dims i).name=(at_ b.dims i).name
 oth:∀ i,i<a.dims.length→i≠k→at_ a.dims i=at_ b.dims i
 ha:(at_ a.dims k).hi≤1073741824
 hb:(at_ b.dims k).hi≤1073741824
 att:a.attrs=b.attrs
 hc:(jU a b k).hi≤1073741824
section
variable {a b:Arr} {name:List UInt8} {k:Nat}
def eu(a b:Arr)(k:Nat):Arr:=⟨a.dims.set k (jU a b k),a.attrs,bI (a.cells++b.cells.map (iT k (byF a b k)))⟩
theorem iw{h:Int}(hh:h≤1073741824):dU h=h:=by unfold dU;omega
theorem Cat.bounds(h:Cat a b name k):(at_ a.dims k).lo≤(at_ a.dims k).hi∧(at_ b.dims k).lo≤(at_ b.dims k).hi∧-1073741824≤(at_ a.dims k).lo∧-1073741824≤(at_ b.dims k).lo:=by
 have h1:=(h.oka.dims.2.2.1 k h.hk).1
 have h2:=(h.okb.dims.2.2.1 k (by rw[← h.len];exact h.hk)).1
 omega
theorem Cat.acell(h:Cat a b name k){c:Cell}(hc:c∈a.cells):c.at'.length=a.dims.length∧c.vals.length=a.attrs.length∧eK a.attrs c.vals=0∧∀ i,i<a.dims.length→(at_ a.dims i).lo≤at_ c.at' i∧at_ c.at' i≤dU (at_ a.dims i).hi:=by
 obtain⟨h1,h2,h3,h4⟩:=cellF_ok.1 (h.oka.cel c hc)
 exact⟨h1,h2,h4,(bQ h1).1 h3⟩
theorem Cat.bcell(h:Cat a b name k){c:Cell}(hc:c∈b.cells):c.at'.length=a.dims.length∧c.vals.length=a.attrs.length∧eK a.attrs c.vals=0∧∀ i,i<a.dims.length→(at_ b.dims i).lo≤at_ c.at' i∧at_ c.at' i≤dU (at_ b.dims i).hi:=by
 obtain⟨h1,h2,h3,h4⟩:=cellF_ok.1 (h.okb.cel c hc)
 rw[h.att,h.len]
 exact⟨h1,h2,h4,(bQ h1).1 h3⟩
theorem Cat.moved(h:Cat a b name k){c:Cell}(hc:c∈b.cells){i:Nat}(hi:i<a.dims.length):at_ (iT k (byF a b k) c).at' i=if i=k then at_ c.at' k+byF a b k else at_ c.at' i :=
 Da (by rw[(h.bcell hc).1];exact hi)
theorem Cat.far(h:Cat a b name k){c:Cell}(hc:c∈b.cells):(at_ a.dims k).hi+1≤at_ (iT k (byF a b k) c).at' k∧at_ (iT k (byF a b k) c).at' k≤(jU a b k).hi:=by
 rw[h.moved hc h.hk,if_pos rfl]
 have h1:=(h.bcell hc).2.2.2 k h.hk
 rw[iw h.hb] at h1
 unfold byF jU byF at *
 dsimp only
 omega
theorem Cat.near(h:Cat a b name k){c:Cell}(hc:c∈a.cells):at_ c.at' k≤(at_ a.dims k).hi:=by
 have h1:=(h.acell hc).2.2.2 k h.hk
 rw[iw h.ha] at h1
 exact h1.2
theorem Cat.bsrt(h:Cat a b name k):(b.cells.map (iT k (byF a b k))).Pairwise ltC:=by
 rw[HR]
 refine List.Pairwise.imp_of_mem (fun {x y} hx hy hxy=>?_) h.okb.srt
 have h1:=(h.bcell hx).1
 have h2:=(h.bcell hy).1
 unfold ltC at hxy ⊢
 show aT (kR k _ x.at') (kR k _ y.at')<0
 rw[tW (by rw[h1];exact h.hk) (by rw[h1,h2])]
 exact hxy
theorem Cat.diff(h:Cat a b name k):(a.cells++b.cells.map (iT k (byF a b k))).Pairwise cx:=by
 refine List.pairwise_append.2 ⟨bP h.oka.srt,bP h.bsrt,fun x hx y hy e=>?_⟩
 obtain⟨c,hc,rfl⟩:=Hh.1 hy
 have h1:=h.near hx
 have h2:=(h.far hc).1
 rw[e] at h1
 omega
theorem Cat.cdim(h:Cat a b name k){i:Nat}(hi:i<a.dims.length):at_ (eu a b k).dims i=if i=k then jU a b k else at_ a.dims i:=pG hi
theorem r6:∀ {ds:List Dim} {met:List (List UInt8)},(∀ d∈ds,ep d.lo d.hi=true∧eX d.name=true∧d.name ∉ met)→(ds.map Dim.name).Nodup→fL met ds=0
 | [],met,_,_=>rfl
 | d::r,met,h,hn=>by
   obtain⟨h1,h2,h3⟩:=h d Hc
   rw[HE,H5] at hn
   simp only[fL,h1,h2]
   rw[if_neg (by simp[h3]),if_neg (by simp)]
   refine r6 (fun x hx=>?_) hn.2
   obtain⟨j1,j2,j3⟩:=h x (G9 _ hx)
   refine⟨j1,j2,fun hm=>?_⟩
   rcases HB.1 hm with hm|hm
   ·exact j3 hm
   ·have e:x.name=d.name:=by simpa using hm
    exact hn.1 (Hh.2 ⟨x,hx,e⟩)
theorem jo{ds:List Dim}{ats:List Attr}(h1:1≤ds.length)(h2:ds.length≤4)(h3:∀ d∈ds,ep d.lo d.hi=true∧eX d.name=true)(h4:(ds.map Dim.name).Nodup)(h5:1≤ats.length)(h6:ats.length≤6)(h7:dv (ds.map Dim.name) ats=0):c6 ds ats=0:=by
 have hd:dh ds=0:=by
  unfold dh
  rw[if_neg (by omega)]
  exact r6 (fun d hd=>⟨(h3 d hd).1,(h3 d hd).2,by simp⟩) h4
 unfold c6
 rw[if_neg (by simp[hd]),if_neg (by omega)]
 exact h7
theorem Cat.cnames(h:Cat a b name k):(eu a b k).dims.map Dim.name=a.dims.map Dim.name:=by
 refine cF (by simp[eu]) fun i hi=>?_
 have hi':i<a.dims.length:=by simpa[eu] using hi
 rw[aK (by simpa[eu] using hi),aK hi',h.cdim hi']
 split
 ·rename_i e;subst e;exact (h.nms i hi').symm
 ·rfl
theorem Cat.okc(h:Cat a b name k)(hl:a.cells.length+b.cells.length≤4096):OkA (eu a b k).dims (eu a b k).attrs (eu a b k).cells:=by
 obtain⟨d1,d2,d3,d4⟩:=h.oka.dims
 obtain⟨s1,s2,s3,s4⟩:=aV h.oka.sch
 have hcl:(eu a b k).dims.length=a.dims.length:=by simp[eu]
 have hbn:=h.bounds
 refine⟨jo (by omega) (by omega) (fun d hd=>?_) (by rw[h.cnames];exact d4) s2 s3 (by rw[h.cnames];exact s4),?_,cH h.diff,fun c hc=>?_⟩
 ·obtain⟨i,hi,rfl⟩:=bt hd
  rw[hcl] at hi
  have hh:=h.hc
  obtain⟨e1,e2⟩:=d3 i hi
  rw[h.cdim hi]
  split
  ·rename_i e;subst e
   refine⟨boundsF_ok.2 ?_,?_⟩
   ·unfold jU byF at *;dsimp only at *;omega
   ·show eX (at_ b.dims i).name=true
    rw[← h.nms i hi];exact e2
  ·exact⟨boundsF_ok.2 e1,e2⟩
 ·show (bI _).length≤4096
  rw[dy,G8,G2];exact hl
 ·have hc':=(bK _).mem_iff.1 hc
  rcases HB.1 hc' with hc'|hc'
  ·obtain⟨e1,e2,e3,e4⟩:=h.acell hc'
   refine cellF_ok.2 ⟨by rw[hcl];exact e1,e2,(bQ (by rw[hcl];exact e1)).2 fun i hi=>?_,e3⟩
   rw[hcl] at hi
   rw[h.cdim hi]
   have e5:=e4 i hi
   split
   ·rename_i e;subst e
    rw[iw h.ha] at e5
    rw[iw h.hc]
    unfold jU byF;dsimp only;omega
   ·exact e5
  ·obtain⟨c0,hc0,rfl⟩:=Hh.1 hc'
   obtain⟨e1,e2,e3,e4⟩:=h.bcell hc0
   have hlen:(iT k (byF a b k) c0).at'.length=a.dims.length:=by rw[← e1];exact vT
   refine cellF_ok.2 ⟨by rw[hcl];exact hlen,e2,(bQ (by rw[hcl];exact hlen)).2 fun i hi=>?_,e3⟩
   rw[hcl] at hi
   rw[h.cdim hi]
   split
   ·rename_i e;subst e
    have hf:=h.far hc0
    rw[iw h.hc]
    refine⟨?_,hf.2⟩
    show (at_ a.dims i).lo≤_
    omega
   ·rename_i e
    rw[h.moved hc0 hi,if_neg e,h.oth i hi e]
    exact e4 i hi
theorem Cat.first(h:Cat a b name k)(hl:a.cells.length+b.cells.length≤4096)(h2:a.cells.length≤4096) :
  Dc (eu a b k) ((eu a b k).dims.map Dim.lo) (((eu a b k).dims.map Dim.hi).set k (at_ a.dims k).hi)=(some a,0):=by
 have hcl:(eu a b k).dims.length=a.dims.length:=by simp[eu]
 obtain⟨d1,d2,d3,d4⟩:=h.oka.dims
 have hbn:=h.bounds
 have hcut:mi (eu a b k).dims ((eu a b k).dims.map Dim.lo) (((eu a b k).dims.map Dim.hi).set k (at_ a.dims k).hi)=a.dims:=by
  refine cF (by simp[mi,hcl]) fun i hi=>?_
  have hi':i<a.dims.length:=by simp[mi,hcl] at hi;exact hi
  have hi2:i<(eu a b k).dims.length:=by rw[hcl];exact hi'
  unfold mi
  rw[tO hi2 (by simp[hcl,hi']),List.zip,tO (by simp[hcl,hi']) (by simp[hcl,hi']),aK hi2,pG (by simp[hcl,hi']),aK hi2,h.cdim hi']
  unfold Db
  by_cases e:i=k
  ·subst e
   rw[if_pos rfl,if_pos rfl]
   refine Dim.ext ?_ ?_ ?_
   ·exact (h.nms i hi').symm
   ·show max (at_ a.dims i).lo (at_ a.dims i).lo=_;omega
   ·show min ((at_ b.dims i).hi+byF a b i) (at_ a.dims i).hi=_;unfold byF;omega
  ·rw[if_neg e,if_neg e]
   refine Dim.ext rfl ?_ ?_
   ·show max _ _=_;omega
   ·show min _ _=_;omega
 unfold Dc
 rw[if_neg (by rw[iM (h.okc hl)];simp),if_neg (by simp),hcut,if_neg ?_]
 ·have hf:(eu a b k).cells.filter (fun c=>dL a.dims c.at')=a.cells:=by
   refine tE _ h.diff h.oka.srt ?_
   rw[List.filter_append,List.filter_eq_self.2 fun c hc=>(bQ (h.acell hc).1).2 (h.acell hc).2.2.2,List.filter_eq_nil_iff.2,H6]
   ·intro c hc hw
    obtain⟨c0,hc0,rfl⟩:=Hh.1 hc
    have hlen:(iT k (byF a b k) c0).at'.length=a.dims.length:=by rw[← (h.bcell hc0).1];exact vT
    have h3:=(bQ hlen).1 hw k h.hk
    have h4:=(h.far hc0).1
    rw[iw h.ha] at h3
    omega
  rw[hf]
  unfold dH
  rw[if_neg (by omega),tt h.oka.srt]
  rfl
 ·simp only[Hd,Bool.not_eq_false,HN,okD,HY]
  intro d hd
  obtain⟨i,hi,rfl⟩:=bt hd
  have:=(d3 i hi).1
  unfold dU;omega
end
end Go.Proofs.YtpejdgkaapnekaaGreat
namespace Go.Proofs.YtpejdgkaapnekaaGreat
open Go Go.Abs
attribute [local irreducible] aa OkC ah av aq aP
set_option maxRecDepth 10000
theorem EK(nm:List UInt8)(lo hi:Int):CallA Tryz.prog 139 [.agg [.d (.str nm),.d (.int .i64 lo),.d (.int .i64 hi)]] [] (.one (.d (.str nm))) []:=by
 refine enter ag Tryz.func139 rfl (by decide +kernel) rfl fun hok w0 σ0 φ0 M=>?_
 repeat' (first|refine wG ?_)
 all_goals (try (((simp_all[aB,G6])<;>exact wL);done))
theorem EL(nm:List UInt8)(t:Int):CallA Tryz.prog 151 [.agg [.d (.str nm),.d (.int .i64 t)]] [] (.one (.d (.str nm))) []:=by
 refine enter ag Tryz.func151 rfl (by decide +kernel) rfl fun hok w0 σ0 φ0 M=>?_
 repeat' (first|refine wG ?_)
 all_goals (try (((simp_all[aB,G6])<;>exact wL);done))
theorem EM(nm name:List UInt8)(lo hi:Int):CallA Tryz.prog 245 [.agg [.d (.str nm),.d (.int .i64 lo),.d (.int .i64 hi)],.one (.d (.ptr [.fn 139 []])),.one (.d (.ptr [.str name]))] [] (.one (.d (.bool (nm==name)))) []:=by
 refine enter ag Tryz.func245 rfl (by decide +kernel) rfl fun hok w0 σ0 φ0 M=>?_
 repeat' (first|(refine h4H ?_;(refine h3H ?_;refine d_l J J (jk J J J J J J (EK _ _ _) J) ?_))|refine wG ?_)
 all_goals (try (((simp_all[aB,G6])<;>exact wL);done))
theorem EN(nm name:List UInt8)(t:Int):CallA Tryz.prog 251 [.agg [.d (.str nm),.d (.int .i64 t)],.one (.d (.ptr [.fn 151 []])),.one (.d (.ptr [.str name]))] [] (.one (.d (.bool (nm==name)))) []:=by
 refine enter ag Tryz.func251 rfl (by decide +kernel) rfl fun hok w0 σ0 φ0 M=>?_
 repeat' (first|(refine h4H ?_;(refine h3H ?_;refine d_l J J (jk J J J J J J (EL _ _) J) ?_))|refine wG ?_)
 all_goals (try (((simp_all[aB,G6])<;>exact wL);done))
theorem CW(f:FuncId)(caps:List D)(p:Dim→Bool)(hp:∀ d:Dim,CallA Tryz.prog f ([.agg [.d (.str d.name),.d (.int .i64 d.lo),.d (.int .i64 d.hi)]]++caps.map fun x=>.one (.d x)) [] (.one (.d (.bool (p d)))) [])(l:List Dim) :
  CallA Tryz.prog 244 [.one (.d (ar l)),.one (.d (.fn f caps))] [] (.one (.d (.int .i64 (aS p l 0)))) []:=by
 refine enter ag Tryz.func244 rfl (by decide +kernel) rfl fun hok w0 σ0 φ0 M=>?_
 have h1:=hok.1.sl;clear hok;simp only[G2] at h1;replace h1:=h1.1
 repeat' (first|(refine h1H ?_;(refine h0H ?_;refine aj J J J J J J J J (hp _) J ?_))|refine wG ?_|(refine h2H ?_;first|refine aA J (fun h=>?_) (fun h=>?_)|refine c9 2 J [(0,_),(1,_),(7,_)] (q3Q J J J) (fun (k:Nat)=>[(8,.one (.d (.int .i64 k)))]) (fun (k:Nat)=>k≤l.length∧aS p l 0=aS p (l.drop k) k) (fun (k:Nat)=>l.length-k) 0 (q1Q J) ?_ (fun k ⟨hk,hs⟩=>?_))|(show Exists _;refine Exists.intro (k+1) ⟨?_,?_,wK,(q1Q J),(q3Q J J J)⟩))
 all_goals (try (((simp_all[aS,aB,G6])<;>exact wL);done))
theorem Aw(f:FuncId)(caps:List D)(p:Attr→Bool)(hp:∀ d:Attr,CallA Tryz.prog f ([.agg [.d (.str d.name),.d (.int .i64 d.type)]]++caps.map fun x=>.one (.d x)) [] (.one (.d (.bool (p d)))) [])(l:List Attr) :
  CallA Tryz.prog 250 [.one (.d (al l)),.one (.d (.fn f caps))] [] (.one (.d (.int .i64 (aS p l 0)))) []:=by
 refine enter ag Tryz.func250 rfl (by decide +kernel) rfl fun hok w0 σ0 φ0 M=>?_
 have h1:=hok.1.sl;clear hok;simp only[G2] at h1;replace h1:=h1.1
 repeat' (first|(refine h1H ?_;(refine h0H ?_;refine aj J J J J J J J J (hp _) J ?_))|refine wG ?_|(refine h2H ?_;first|refine aA J (fun h=>?_) (fun h=>?_)|refine c9 2 J [(0,_),(1,_),(7,_)] (q3Q J J J) (fun (k:Nat)=>[(8,.one (.d (.int .i64 k)))]) (fun (k:Nat)=>k≤l.length∧aS p l 0=aS p (l.drop k) k) (fun (k:Nat)=>l.length-k) 0 (q1Q J) ?_ (fun k ⟨hk,hs⟩=>?_))|(show Exists _;refine Exists.intro (k+1) ⟨?_,?_,wK,(q1Q J),(q3Q J J J)⟩))
 all_goals (try (((simp_all[aS,aB,G6])<;>exact wL);done))
theorem CN(l:List Dim)(name:List UInt8):CallA Tryz.prog 195 [.one (.d (ar l)),.one (.d (.str name)),.one (.d (.fn 139 []))] [] (.one (.d (.int .i64 (aS (fun a:Dim=>a.name==name) l 0)))) []:=by
 refine enter ag Tryz.func195 rfl (by decide +kernel) rfl fun hok w0 σ0 φ0 M=>?_
 repeat' (first|(refine h1H ?_;(refine h0H ?_;refine aj J J J J J J J J (CW _ _ _ (fun d=>EM _ name _ _) _) J ?_))|refine wG ?_)
 all_goals (try (((simp_all[aB,G6])<;>exact wL);done))
theorem CT(l:List Attr)(name:List UInt8):CallA Tryz.prog 207 [.one (.d (al l)),.one (.d (.str name)),.one (.d (.fn 151 []))] [] (.one (.d (.int .i64 (aS (fun a:Attr=>a.name==name) l 0)))) []:=by
 refine enter ag Tryz.func207 rfl (by decide +kernel) rfl fun hok w0 σ0 φ0 M=>?_
 repeat' (first|(refine h1H ?_;(refine h0H ?_;refine aj J J J J J J J J (Aw _ _ _ (fun d=>EN _ name _) _) J ?_))|refine wG ?_)
 all_goals (try (((simp_all[aB,G6])<;>exact wL);done))
theorem CL(ds:List Dim)(ats:List Attr)(cs:D)(name:List UInt8):CallA Tryz.prog 126 [.agg [.d (ar ds),.d (al ats),.d cs],.one (.d (.str name))] [] (.one (.d (.int .i64 (aS (fun a:Dim=>a.name==name) ds 0)))) []:=by
 refine enter ag Tryz.func126 rfl (by decide +kernel) rfl fun hok w0 σ0 φ0 M=>?_
 repeat' (first|(refine h1H ?_;(refine h0H ?_;refine aj J J J J J J J J (CN _ _) J ?_))|refine wG ?_)
 all_goals (try (((simp_all[aB,G6])<;>exact wL);done))
theorem EO(ds:List Dim)(ats:List Attr)(cs:D)(name:List UInt8):CallA Tryz.prog 148 [.agg [.d (ar ds),.d (al ats),.d cs],.one (.d (.str name))] [] (.one (.d (.int .i64 (aS (fun a:Attr=>a.name==name) ats 0)))) []:=by
 refine enter ag Tryz.func148 rfl (by decide +kernel) rfl fun hok w0 σ0 φ0 M=>?_
 repeat' (first|(refine h1H ?_;(refine h0H ?_;refine aj J J J J J J J J (CT _ _) J ?_))|refine wG ?_)
 all_goals (try (((simp_all[aB,G6])<;>exact wL);done))
def ba(a:Arr):Int:=dm a.dims a.attrs a.cells
theorem EX(a:Arr):CallA Tryz.prog 180 [bB a] [] (.one (.d (.bool (ba a != 0)))) []:=by
 unfold bB
 refine enter ag Tryz.func180 rfl (by decide +kernel) rfl fun hok w0 σ0 φ0 M=>?_
 clear hok
 repeat' (first|(refine h1H ?_;(refine h0H ?_;refine aj J J J J J J J J (c59 _ _ _) J ?_))|refine wG ?_)
 all_goals rfl
theorem c31(a:Arr)(m:Int):CallA Tryz.prog 31 [bB a,.one (.d (.int .i64 m))] [] (.one (.d (.bool (decide (m<(a.cells.length:Int))||ba a != 0)))) []:=by
 unfold bB
 refine enter ag Tryz.func31 rfl (by decide +kernel) rfl fun hok w0 σ0 φ0 M=>?_
 have h1:=(OkD.sl (hok.1 (.d (aG a.cells)) (by simp))).1;clear hok;simp only[G2] at h1
 repeat' (first|(refine h1H ?_;(refine h0H ?_;refine aj J J J J J J J J (c59 _ _ _) J ?_))|refine wG ?_|(refine h1H ?_;(refine h9H ?_;refine cq J J J J (fun h=>?_) (fun h=>?_))))
 all_goals (try (((simp_all[ba,aB,G6])<;>exact wL);done))
theorem EY(l:List Arr):CallA Tryz.prog 230 [.one (.d (qP l)),.one (.d (.fn 180 []))] [] (.one (.d (.int .i64 (aS (fun a=>ba a != 0) l 0)))) []:=by
 refine enter ag Tryz.func230 rfl (by decide +kernel) rfl fun hok w0 σ0 φ0 M=>?_
 have h1:=hok.1.sl;clear hok;simp only[G2] at h1;replace h1:=h1.1
 repeat' (first|(refine h1H ?_;(refine h0H ?_;refine aj J J J J J J J J (EX _) J ?_))|refine wG ?_|(refine h2H ?_;first|refine aA J (fun h=>?_) (fun h=>?_)|refine c9 2 J [(0,_),(1,_),(7,_)] (q3Q J J J) (fun (k:Nat)=>[(8,.one (.d (.int .i64 k)))]) (fun (k:Nat)=>k≤l.length∧aS (fun a=>ba a != 0) l 0=aS (fun a=>ba a != 0) (l.drop k) k) (fun (k:Nat)=>l.length-k) 0 (q1Q J) ?_ (fun k ⟨hk,hs⟩=>?_))|(show Exists _;refine Exists.intro (k+1) ⟨?_,?_,wK,(q1Q J),(q3Q J J J)⟩))
 all_goals (try (((simp_all[aS,aB,G6])<;>exact wL);done))
theorem EZ(l:List Arr):CallA Tryz.prog 179 [.one (.d (qP l)),.one (.d (.fn 180 []))] [] (.one (.d (.bool (!decide (aS (fun a=>ba a != 0) l 0<0))))) []:=by
 refine enter ag Tryz.func179 rfl (by decide +kernel) rfl fun hok w0 σ0 φ0 M=>?_
 clear hok
 repeat' (first|(refine h1H ?_;(refine h0H ?_;refine aj J J J J J J J J (EY _) J ?_))|refine wG ?_)
 all_goals (try (((simp_all[aB,G6])<;>exact wL);done))
def bj(l:List Arr):Bool:=l.all fun a=>ba a==0
theorem pZ:∀ (l:List Arr) (j:Nat),aS (fun a=>ba a != 0) l j<0↔bj l=true
 | [],j=>by simp[aS,bj]
 | a::l,j=>by
   have ih:=pZ l (j+1)
   simp only[aS,bj,List.all_cons,GZ]
   by_cases h:ba a=0
   ·rw[if_neg (by simp[h])]
    rw[ih]
    simp[h,bj]
   ·rw[if_pos (by simp[h])]
    constructor
    ·intro h1;omega
    ·intro h1;simp[h] at h1
theorem y4(l:List Arr)(j:Nat):decide (aS (fun a=>ba a != 0) l j<0)=bj l:=by
 rw[HK,HX,pZ]
theorem c96(l:List Arr):CallA Tryz.prog 96 [.one (.d (qP l))] [] (.one (.d (.bool (bj l)))) []:=by
 refine enter ag Tryz.func96 rfl (by decide +kernel) rfl fun hok w0 σ0 φ0 M=>?_
 clear hok
 repeat' (first|(refine h1H ?_;(refine h0H ?_;refine aj J J J J J J J J (EZ _) J ?_))|refine wG ?_)
 all_goals (try (((simp_all[y4,aB,G6])<;>exact wL);done))
theorem E0(a b:List Dim):CallA Tryz.prog 120 [.one (.d (ar a)),.one (.d (ar b))] [] (.one (.d (.bool (cM l9 a b)))) []:=by
 refine enter ag Tryz.func120 rfl (by decide +kernel) rfl fun hok w0 σ0 φ0 M=>?_
 have h1:=hok.1.sl;have h2:=hok.2.1.sl;clear hok;simp only[G2] at h1 h2;replace h1:=h1.1;replace h2:=h2.1
 repeat' (first|refine wG ?_|(refine h2H ?_;first|refine aA J (fun h=>?_) (fun h=>?_)|refine c9 4 J [(0,_),(1,_),(12,_)] (q3Q J J J) (fun (k:Nat)=>[(13,.one (.d (.int .i64 k)))]) (fun (k:Nat)=>k≤a.length∧a.length=b.length∧cM l9 a b=dA l9 (a.drop k) (b.drop k)) (fun (k:Nat)=>a.length-k) 0 (q1Q J) ?_ (fun k ⟨hk,hq,hs⟩=>?_))|(show Exists _;refine Exists.intro (k+1) ⟨?_,?_,wK,(q1Q J),(q3Q J J J)⟩))
 all_goals (try (((simp_all[cM,dA,l9,aN,bV,eqD,aB,G6])<;>exact wL);done))
theorem E1(a b:List Attr):CallA Tryz.prog 121 [.one (.d (al a)),.one (.d (al b))] [] (.one (.d (.bool (cM jS a b)))) []:=by
 refine enter ag Tryz.func121 rfl (by decide +kernel) rfl fun hok w0 σ0 φ0 M=>?_
 have h1:=hok.1.sl;have h2:=hok.2.1.sl;clear hok;simp only[G2] at h1 h2;replace h1:=h1.1;replace h2:=h2.1
 repeat' (first|refine wG ?_|(refine h2H ?_;first|refine aA J (fun h=>?_) (fun h=>?_)|refine c9 4 J [(0,_),(1,_),(12,_)] (q3Q J J J) (fun (k:Nat)=>[(13,.one (.d (.int .i64 k)))]) (fun (k:Nat)=>k≤a.length∧a.length=b.length∧cM jS a b=dA jS (a.drop k) (b.drop k)) (fun (k:Nat)=>a.length-k) 0 (q1Q J) ?_ (fun k ⟨hk,hq,hs⟩=>?_))|(show Exists _;refine Exists.intro (k+1) ⟨?_,?_,wK,(q1Q J),(q3Q J J J)⟩))
 all_goals (try (((simp_all[cM,dA,jS,aL,bV,eqD,aB,G6])<;>exact wL);done))
theorem E2(a b:List Int):CallA Tryz.prog 124 [.one (.d (aC a)),.one (.d (aC b))] [] (.one (.d (.bool (cM (fun x y=>x==y) a b)))) []:=by
 refine enter ag Tryz.func124 rfl (by decide +kernel) rfl fun hok w0 σ0 φ0 M=>?_
 have h1:=hok.1.sl;have h2:=hok.2.1.sl;clear hok;simp only[G2] at h1 h2;replace h1:=h1.1;replace h2:=h2.1
 repeat' (first|refine wG ?_|(refine h2H ?_;first|refine aA J (fun h=>?_) (fun h=>?_)|refine c9 4 J [(0,_),(1,_),(12,_)] (q3Q J J J) (fun (k:Nat)=>[(13,.one (.d (.int .i64 k)))]) (fun (k:Nat)=>k≤a.length∧a.length=b.length∧cM (fun x y=>x==y) a b=dA (fun x y=>x==y) (a.drop k) (b.drop k)) (fun (k:Nat)=>a.length-k) 0 (q1Q J) ?_ (fun k ⟨hk,hq,hs⟩=>?_))|(show Exists _;refine Exists.intro (k+1) ⟨?_,?_,wK,(q1Q J),(q3Q J J J)⟩))
 all_goals (try (((simp_all[cM,dA,aB,G6])<;>exact wL);done))
theorem E3(a b:List Val):CallA Tryz.prog 125 [.one (.d (cR a)),.one (.d (cR b))] [] (.one (.d (.bool (cM ma a b)))) []:=by
 refine enter ag Tryz.func125 rfl (by decide +kernel) rfl fun hok w0 σ0 φ0 M=>?_
 have h1:=hok.1.sl;have h2:=hok.2.1.sl;clear hok;simp only[G2] at h1 h2;replace h1:=h1.1;replace h2:=h2.1
 repeat' (first|refine wG ?_|(refine h2H ?_;first|refine aA J (fun h=>?_) (fun h=>?_)|refine c9 4 J [(0,_),(1,_),(12,_)] (q3Q J J J) (fun (k:Nat)=>[(13,.one (.d (.int .i64 k)))]) (fun (k:Nat)=>k≤a.length∧a.length=b.length∧cM ma a b=dA ma (a.drop k) (b.drop k)) (fun (k:Nat)=>a.length-k) 0 (q1Q J) ?_ (fun k ⟨hk,hq,hs⟩=>?_))|(show Exists _;refine Exists.intro (k+1) ⟨?_,?_,wK,(q1Q J),(q3Q J J J)⟩))
 all_goals (try (((simp_all[cM,dA,ma,bW,bV,eqD,aB,G6])<;>exact wL);done))
theorem E4(x y:Cell):CallA Tryz.prog 123 [.agg [.d (aC x.at'),.d (cR x.vals)],.agg [.d (aC y.at'),.d (cR y.vals)]] [] (.one (.d (.bool (iQ x y)))) []:=by
 refine enter ag Tryz.func123 rfl (by decide +kernel) rfl fun hok w0 σ0 φ0 M=>?_
 clear hok
 repeat' (first|(refine h1H ?_;(refine h0H ?_;first|refine aj J J J J J J J J (E2 _ _) J ?_|refine aj J J J J J J J J (E3 _ _) J ?_))|refine wG ?_|(refine h1H ?_;(refine h9H ?_;refine cq J J J J (fun h=>?_) (fun h=>?_))))
 all_goals (try (((simp_all[iQ,aB,G6])<;>exact wL);done))
theorem E5(a b:List Cell):CallA Tryz.prog 122 [.one (.d (aG a)),.one (.d (aG b)),.one (.d (.fn 123 []))] [] (.one (.d (.bool (cM iQ a b)))) []:=by
 refine enter ag Tryz.func122 rfl (by decide +kernel) rfl fun hok w0 σ0 φ0 M=>?_
 have h1:=hok.1.sl;have h2:=hok.2.1.sl;clear hok;simp only[G2] at h1 h2;replace h1:=h1.1;replace h2:=h2.1
 repeat' (first|(refine h1H ?_;(refine h0H ?_;refine aj J J J J J J J J (E4 _ _) J ?_))|refine wG ?_|(refine h2H ?_;first|refine aA J (fun h=>?_) (fun h=>?_)|refine c9 4 J [(1,_),(2,_),(15,_),(16,_)] (q4Q J J J J) (fun (k:Nat)=>[(17,.one (.d (.int .i64 k)))]) (fun (k:Nat)=>k≤a.length∧a.length=b.length∧cM iQ a b=dA iQ (a.drop k) (b.drop k)) (fun (k:Nat)=>a.length-k) 0 (q1Q J) ?_ (fun k ⟨hk,hq,hs⟩=>?_))|(show Exists _;refine Exists.intro (k+1) ⟨?_,?_,wK,(q1Q J),(q4Q J J J J)⟩))
 all_goals (try (((simp_all[cM,dA,aB,G6])<;>exact wL);done))
def p3(a b:Arr):Bool:=ba a==0&&(ba b==0&&(cM l9 a.dims b.dims&&(cM jS a.attrs b.attrs&&cM iQ a.cells b.cells)))
theorem c32(a b:Arr):CallA Tryz.prog 32 [bB a,bB b] [] (.one (.d (.bool (p3 a b)))) []:=by
 unfold bB
 refine enter ag Tryz.func32 rfl (by decide +kernel) rfl fun hok w0 σ0 φ0 M=>?_
 clear hok
 repeat' (first|(refine h1H ?_;(refine h0H ?_;first|refine aj J J J J J J J J (c59 _ _ _) J ?_|refine aj J J J J J J J J (E0 _ _) J ?_|refine aj J J J J J J J J (E1 _ _) J ?_|refine aj J J J J J J J J (E5 _ _) J ?_))|refine wG ?_|(refine h1H ?_;(refine h9H ?_;refine cq J J J J (fun h=>?_) (fun h=>?_)))|(refine h2H ?_;refine aA J (fun h=>?_) (fun h=>?_)))
 all_goals (try (((simp_all[p3,ba,aB,G6])<;>exact wL);done))
end Go.Proofs.YtpejdgkaapnekaaGreat
namespace Go.Proofs.YtpejdgkaapnekaaGreat
open Go Go.Abs
def mc(d e:Dim):Dim:=⟨d.name,min d.lo e.lo,max d.hi e.hi⟩
def dV(a b:List Dim):List Dim:=a.zipWith mc b
def tN(l:List Cell)(c:Cell):Bool:=!(l.any fun x=>x.at'==c.at')
def nf(a b:Arr):Arr:=⟨dV a.dims b.dims,a.attrs,bI (a.cells++b.cells.filter (tN a.cells))⟩
def Az(l:List Cell)(t:List Int):Prop:=∃ y∈l,y.at'=t
theorem newC_iff{l:List Cell}{c:Cell}:tN l c=true↔¬ Az l c.at':=by
 simp[tN,Az]
theorem jb:∀ {l m:List Cell},l.Pairwise ltC→m.Pairwise ltC→(∀ x,x∈l↔x∈m)→l=m
 | [],[],_,_,_=>rfl
 | [],y::m,_,_,h=>by have:=(h y).2 Hc;simp at this
 | x::l,[],_,_,h=>by have:=(h x).1 Hc;simp at this
 | x::l,y::m,h1,h2,h=>by
   have h1':=List.pairwise_cons.1 h1
   have h2':=List.pairwise_cons.1 h2
   have hxy:x=y:=by
    rcases Hm.1 ((h x).1 Hc) with e|hx
    ·exact e
    rcases Hm.1 ((h y).2 Hc) with e|hy
    ·exact e.symm
    exact (jm (mW (h1'.1 y hy) (h2'.1 x hx))).elim
   subst hxy
   rw[jb h1'.2 h2'.2 fun z=>?_]
   constructor
   ·intro hz
    rcases Hm.1 ((h z).1 (G9 _ hz)) with e|hz'
    ·subst e;exact (jm (h1'.1 _ hz)).elim
    ·exact hz'
   ·intro hz
    rcases Hm.1 ((h z).2 (G9 _ hz)) with e|hz'
    ·subst e;exact (jm (h2'.1 _ hz)).elim
    ·exact hz'
structure Mrg (a b:Arr):Prop where
 oka:OkA a.dims a.attrs a.cells
 okb:OkA b.dims b.attrs b.cells
 names:a.dims.map Dim.name=b.dims.map Dim.name
 attrs:a.attrs=b.attrs
section
variable {a b c:Arr}
theorem eF(h:Mrg a b):(dV a.dims b.dims).length=a.dims.length:=by
 have:a.dims.length=b.dims.length:=by simpa using congrArg List.length h.names
 simp[dV];omega
theorem Mrg.len(h:Mrg a b):a.dims.length=b.dims.length:=by simpa using congrArg List.length h.names
theorem qR(h:Mrg a b){i:Nat}(hi:i<a.dims.length):at_ (dV a.dims b.dims) i=mc (at_ a.dims i) (at_ b.dims i):=tO hi (by rw[← h.len];exact hi)
theorem me(h:Mrg a b):(dV a.dims b.dims).map Dim.name=a.dims.map Dim.name:=by
 refine cF (by simp[eF h]) fun i hi=>?_
 have hi':i<a.dims.length:=by simpa[eF h] using hi
 rw[aK (by rw[eF h];exact hi'),aK hi',qR h hi']
 rfl
theorem mrg_mem{x:Cell}:x∈(nf a b).cells↔x∈a.cells∨(x∈b.cells∧¬ Az a.cells x.at'):=by
 show x∈bI _↔_
 rw[(bK _).mem_iff,HB,H0,newC_iff]
theorem AA(h:Mrg a b):(a.cells++b.cells.filter (tN a.cells)).Pairwise cx:=by
 refine List.pairwise_append.2 ⟨bP h.oka.srt,(bP h.okb.srt).filter _,fun x hx y hy e=>?_⟩
 exact newC_iff.1 (H0.1 hy).2 ⟨x,hx,e⟩
theorem xe(h:Mrg a b):(nf a b).cells.Pairwise ltC:=cH (AA h)
theorem BV:(nf a b).cells.length≤a.cells.length+b.cells.length:=by
 show (bI _).length≤_
 rw[dy,G8]
 have:=List.length_filter_le (tN a.cells) b.cells
 omega
theorem r5(h:Mrg a b){x:Cell}{ds:List Dim}(hl:ds.length=a.dims.length)(hx:dc ds a.attrs x.at' x.vals=0)
  (hd:∀ i,i<a.dims.length→(mc (at_ a.dims i) (at_ b.dims i)).lo≤(at_ ds i).lo∧(at_ ds i).hi≤(mc (at_ a.dims i) (at_ b.dims i)).hi):dc (dV a.dims b.dims) a.attrs x.at' x.vals=0:=by
 obtain⟨h1,h2,h3,h4⟩:=cellF_ok.1 hx
 refine cellF_ok.2 ⟨by rw[eF h];omega,h2,?_,h4⟩
 rw[bQ h1] at h3
 rw[bQ (by rw[eF h];omega)]
 intro i hi
 rw[eF h] at hi
 rw[qR h hi]
 have e1:=h3 i (by omega)
 have e2:=hd i hi
 unfold dU at *
 omega
theorem C6(h:Mrg a b)(hn:(nf a b).cells.length≤4096):OkA (nf a b).dims (nf a b).attrs (nf a b).cells:=by
 obtain⟨a1,a2,a3,a4⟩:=h.oka.dims
 obtain⟨b1,b2,b3,b4⟩:=h.okb.dims
 have hs:=aV h.oka.sch
 refine⟨?_,hn,xe h,fun x hx=>?_⟩
 ·refine jo (by show _≤(dV _ _).length;rw[eF h];exact a1) (by show (dV _ _).length≤_;rw[eF h];exact a2) (fun d hd=>?_) (by show ((dV _ _).map _).Nodup;rw[me h];exact a4) hs.2.1 hs.2.2.1 (by show dv ((dV _ _).map _) _=0;rw[me h];exact hs.2.2.2)
  obtain⟨i,hi,rfl⟩:=bt hd
  have hi':i<a.dims.length:=by rw[← eF h];exact hi
  show ep (at_ (dV a.dims b.dims) i).lo (at_ (dV a.dims b.dims) i).hi=true∧eX (at_ (dV a.dims b.dims) i).name=true
  rw[qR h hi']
  obtain⟨e1,e2⟩:=a3 i hi'
  obtain⟨e3,_⟩:=b3 i (by rw[← h.len];exact hi')
  refine⟨boundsF_ok.2 ?_,e2⟩
  simp only[mc]
  omega
 ·show dc (dV a.dims b.dims) a.attrs _ _=0
  rcases mrg_mem.1 hx with hx|⟨hx,_⟩
  ·exact r5 h rfl (h.oka.cel x hx) fun i hi=>by simp only[mc];omega
  ·refine r5 h h.len.symm (by rw[h.attrs];exact h.okb.cel x hx) fun i hi=>by simp only[mc];omega
theorem Mrg.symm(h:Mrg a b):Mrg b a:=⟨h.okb,h.oka,h.names.symm,h.attrs.symm⟩
theorem Mrg.left(h:Mrg a b)(h':Mrg b c)(hn:a.cells.length+b.cells.length≤4096):Mrg (nf a b) c :=
 ⟨C6 h (Hf BV hn),h'.okb,(me h).trans (h.names.trans h'.names),h.attrs.trans h'.attrs⟩
theorem Arr.ext{x y:Arr}(h1:x.dims=y.dims)(h2:x.attrs=y.attrs)(h3:x.cells=y.cells):x=y:=by cases x;cases y;simp_all
end
end Go.Proofs.YtpejdgkaapnekaaGreat
namespace Go.Proofs.YtpejdgkaapnekaaGreat
open Go Go.Abs
def pg(d:Dim):Int:=d.hi-d.lo+1
def Bt:Int→List Dim→Int×Int
 | n,[]=>(n,0)
 | n,d::r=>if (4611686018427387904:Int) / pg d<n then (0,14) else Bt (n*pg d) r
def E8(ds:List Dim):Int×Int:=if dh ds≠0 then (0,dh ds) else if ds.any (fun d=>d.hi==1073741825) then (0,3) else Bt 1 ds
def nR:List Dim→Int
 | []=>1
 | d::r=>pg d*nR r
theorem vU{d:Dim}(h:ep d.lo d.hi=true):0<pg d:=by
 have:=boundsF_ok.1 h
 unfold pg;omega
structure Resh (a:Arr) (es:List Dim):Prop where
 oka:OkA a.dims a.attrs a.cells
 sch:c6 es a.attrs=0
 fin:∀ i,i<a.dims.length→(at_ a.dims i).hi≤1073741824
 fin':∀ i,i<es.length→(at_ es i).hi≤1073741824
 same:nR a.dims=nR es
section
variable {a:Arr} {es:List Dim}
theorem Resh.ext(h:Resh a es):(∀ d∈a.dims,0<pg d)∧∀ d∈es,0<pg d :=
 ⟨fun d hd=>vU ((fU (aV h.oka.sch).1).2.2.1 d hd).1,fun d hd=>vU ((fU (aV h.sch).1).2.2.1 d hd).1⟩
theorem Resh.cell(h:Resh a es){c:Cell}(hc:c∈a.cells):c.at'.length=a.dims.length∧∀ i,i<a.dims.length→(at_ a.dims i).lo≤at_ c.at' i∧at_ c.at' i≤(at_ a.dims i).hi:=by
 obtain⟨h1,h2,h3,h4⟩:=cellF_ok.1 (h.oka.cel c hc)
 rw[bQ h1] at h3
 refine⟨h1,fun i hi=>?_⟩
 have:=h3 i hi
 unfold dU at this
 omega
end
end Go.Proofs.YtpejdgkaapnekaaGreat
namespace Go.Proofs.YtpejdgkaapnekaaGreat
open Go Go.Abs
def atX(ats:List Attr)(name:List UInt8):Int:=aS (fun a:Attr=>a.name==name) ats 0
end Go.Proofs.YtpejdgkaapnekaaGreat
namespace Go.Proofs.YtpejdgkaapnekaaGreat
open Go Go.Abs
theorem gJ{α:Type}{p:α→Bool}:∀ {l:List α} {j:Nat},aS p l j<0→∀ x∈l,p x=false
 | [],_,_,_,h=>by simp at h
 | x::l,j,h,y,hy=>by
   simp only[aS] at h
   split at h
   ·omega
   ·rename_i h1
    rcases Hm.1 hy with rfl|hy
    ·simpa using h1
    ·exact gJ h y hy
section
variable {src kept:List (Int×Bool)} {ds:List Dim} {rule:Int}
end
theorem Attr.ext{a b:Attr}(h1:a.name=b.name)(h2:a.type=b.type):a=b:=by cases a;cases b;simp_all
end Go.Proofs.YtpejdgkaapnekaaGreat
namespace Go.Proofs.YtpejdgkaapnekaaGreat
open Go Go.Abs
def af{α:Type}[Inhabited α](l:List α)(ks:List Int):List α:=ks.map fun k=>at_ l k.toNat
def df(ds:List Dim):List Int→List (List UInt8)→Option (List Int)
 | acc,[]=>some acc
 | acc,n::r=>if aY ds n<0 then none else if acc.contains (aY ds n) then none else df ds (acc++[aY ds n]) r
def jl(ks:List Int)(c:Cell):Cell:=⟨af c.at' ks,c.vals⟩
def dp(a:Arr)(names:List (List UInt8)):Option Arr×Int :=
 if ba a≠0 then (none,2)
 else if (names.length:Int)≠a.dims.length then (none,13)
 else match df a.dims [] names with
  | none=>(none,11)
  | some ks=>dH (af a.dims ks) a.attrs (a.cells.map (jl ks))
theorem y5{ds:List Dim}:∀ {names:List (List UInt8)} {acc ks:List Int},df ds acc names=some ks→ks=acc++names.map (aY ds)∧(∀ n∈names,¬ aY ds n<0)∧(acc.Nodup→ks.Nodup)
 | [],acc,ks,h=>by
   simp only[df,G4] at h
   subst h;simp
 | n::r,acc,ks,h=>by
   simp only[df] at h
   split at h
   ·cases h
   split at h
   ·cases h
   rename_i h1 h2
   obtain⟨e1,e2,e3⟩:=y5 h
   refine⟨by rw[e1];simp,fun x hx=>?_,fun hn=>e3 ?_⟩
   ·rcases Hm.1 hx with rfl|hx
    ·exact h1
    ·exact e2 x hx
   ·have h3:aY ds n ∉ acc:=by simpa using h2
    rw[List.nodup_append]
    exact⟨hn,by simp,fun a ha b hb=>by rw[List.mem_singleton.1 hb];rintro rfl;exact h3 ha⟩
theorem tL{ds:List Dim}:∀ {names:List (List UInt8)} {acc:List Int},(∀ n∈names,¬ aY ds n<0)→(acc++names.map (aY ds)).Nodup→df ds acc names=some (acc++names.map (aY ds))
 | [],acc,_,_=>by simp[df]
 | n::r,acc,h1,h2=>by
   have h3:aY ds n ∉ acc:=fun hm=>by
    rw[List.nodup_append] at h2
    exact h2.2.2 _ hm _ (by simp) rfl
   rw[df,if_neg (h1 n Hc),if_neg (by simpa using h3),tL (fun x hx=>h1 x (G9 _ hx)) (by simpa using h2)]
   simp
theorem pU:∀ {m:Nat} {l:List Nat},l.Nodup→(∀ x∈l,x<m)→l.length≤m
 | 0,l,_,h=>by
   cases l with
   | nil=>simp
   | cons x r=>exact absurd (h x Hc) (Nat.not_lt_zero _)
 | m+1,l,hn,h=>by
   by_cases hm:m∈l
   ·have h1:=pU (m:=m) (l:=l.erase m) (hn.erase m) fun x hx=>by
     have h2:=(hn.mem_erase_iff).1 hx
     have:=h x h2.2
     omega
    rw[List.length_erase_of_mem hm] at h1
    omega
   ·have h1:=pU (m:=m) (l:=l) hn fun x hx=>by
     have:=h x hx
     have:x≠m:=fun e=>hm (e ▸ hx)
     omega
    omega
theorem CZ{l:List Nat}{n:Nat}(hn:l.Nodup)(hl:l.length=n)(h:∀ x∈l,x<n){i:Nat}(hi:i<n):i∈l:=by
 by_cases hm:i∈l
 ·exact hm
 ·have h1:=pU (m:=n) (l:=i::l) (H5.2 ⟨hm,hn⟩) fun x hx=>by
   rcases Hm.1 hx with rfl|hx
   ·exact hi
   ·exact h x hx
  simp only[Ho] at h1
  omega
structure Tran (a:Arr) (names:List (List UInt8)):Prop where
 oka:OkA a.dims a.attrs a.cells
 len:names.length=a.dims.length
 all:∀ n∈names,¬ aY a.dims n<0
 nd:(names.map (aY a.dims)).Nodup
def ixs(ds:List Dim)(names:List (List UInt8)):List Int:=names.map (aY ds)
def ee(a:Arr)(names:List (List UInt8)):Arr:=⟨af a.dims (ixs a.dims names),a.attrs,bI (a.cells.map (jl (ixs a.dims names)))⟩
theorem mZ(a:Arr)(names:List (List UInt8))(hc:ba a=0):(∃ e,e≠0∧dp a names=(none,e))∨(Tran a names∧dp a names=(some (ee a names),0)):=by
 unfold dp
 rw[if_neg (by simp[hc])]
 by_cases h1:names.length=a.dims.length
 ·rw[if_neg (by simp[h1])]
  cases hs:df a.dims [] names with
  | none=>exact .inl ⟨11,by decide,rfl⟩
  | some ks =>
    obtain⟨e1,e2,e3⟩:=y5 hs
    simp only[HQ] at e1
    refine .inr ⟨⟨okA hc,h1,e2,e1 ▸ e3 (by simp)⟩,?_⟩
    subst e1
    show dH _ _ _=_
    unfold dH
    rw[if_neg (by rw[G2];have:=(okA hc).few;omega)]
    rfl
 ·rw[if_pos (by omega)]
  exact .inl ⟨13,by decide,rfl⟩
theorem cQ{α:Type}[Inhabited α]{l:List α}{ks:List Int}{i:Nat}(h:i<ks.length):at_ (af l ks) i=at_ l (at_ ks i).toNat:=by
 unfold af;rw[aK h]
theorem bc{α:Type}[Inhabited α]{l:List α}{ks:List Int}:(af l ks).length=ks.length:=by simp[af]
theorem eD{ds:List Dim}(hn:(ds.map Dim.name).Nodup){j:Nat}(hj:j<ds.length){n:List UInt8}(h:(at_ ds j).name=n):aY ds n=(j:Int):=by
 have h0:¬ aY ds n<0:=fun hx=>by
  have:=gJ hx _ (aW hj)
  simp[h] at this
 obtain⟨k,h1,h2,h3,_⟩:=fx h0
 have:=lR hn h2 hj (h3.trans h.symm)
 rw[h1,this]
section
variable {a:Arr} {names:List (List UInt8)}
theorem Tran.ix(h:Tran a names){i:Nat}(hi:i<names.length):∃ k:Nat,at_ (ixs a.dims names) i=(k:Int)∧k<a.dims.length∧(at_ a.dims k).name=at_ names i:=by
 obtain⟨k,h1,h2,h3,_⟩:=fx (h.all _ (aW hi))
 exact⟨k,by unfold ixs;rw[aK hi,h1],h2,h3⟩
theorem dB:(ixs a.dims names).length=names.length:=by simp[ixs]
theorem Tran.nms(h:Tran a names):(ee a names).dims.map Dim.name=names:=by
 refine cF (by simp[ee,af,ixs]) fun i hi=>?_
 have hi':i<names.length:=by simpa[ee,af,ixs] using hi
 obtain⟨k,h1,h2,h3⟩:=h.ix hi'
 rw[aK (by show i<(af _ _).length;rw[bc,dB];exact hi')]
 show (at_ (af a.dims (ixs a.dims names)) i).name=_
 rw[cQ (by rw[dB];exact hi'),h1]
 exact h3
theorem Tran.namesNd(h:Tran a names):names.Nodup:=by
 have:=h.nd
 rw[List.Nodup,HR] at this
 exact this.imp fun hne e=>hne (by rw[e])
theorem Tran.onto(h:Tran a names){i:Nat}(hi:i<a.dims.length):∃ j,j<names.length∧at_ (ixs a.dims names) j=(i:Int):=by
 have hlt:∀ x∈(ixs a.dims names).map Int.toNat,x<a.dims.length:=fun x hx=>by
  obtain⟨y,hy,rfl⟩:=Hh.1 hx
  obtain⟨j,hj,rfl⟩:=bt hy
  rw[dB] at hj
  obtain⟨k,h1,h2,_⟩:=h.ix hj
  rw[h1];simpa using h2
 have hnd:((ixs a.dims names).map Int.toNat).Nodup:=by
  rw[List.Nodup,HR]
  refine List.Pairwise.imp_of_mem ?_ h.nd
  intro x y hx hy hne e
  apply hne
  obtain⟨j,hj,rfl⟩:=bt (l:=ixs a.dims names) hx
  obtain⟨j',hj',rfl⟩:=bt (l:=ixs a.dims names) hy
  rw[dB] at hj hj'
  obtain⟨k,h1,_⟩:=h.ix hj
  obtain⟨k',h1',_⟩:=h.ix hj'
  rw[h1,h1'] at e ⊢
  have e':k=k':=by simpa using e
  rw[e']
 have:=CZ hnd (by rw[G2,dB];exact h.len) hlt hi
 obtain⟨y,hy,e⟩:=Hh.1 this
 obtain⟨j,hj,rfl⟩:=bt hy
 rw[dB] at hj
 obtain⟨k,h1,_⟩:=h.ix hj
 exact⟨j,hj,by rw[h1] at e ⊢;simp at e;rw[e]⟩
theorem Tran.cell(h:Tran a names){c:Cell}(hc:c∈a.cells):c.at'.length=a.dims.length:=(cellF_ok.1 (h.oka.cel c hc)).1
theorem mA:∀ {ats:List Attr} {m m':List (List UInt8)},(∀ x,x∈m↔x∈m')→dv m ats=dv m' ats
 | [],_,_,_=>rfl
 | x::r,m,m',h=>by
   have e:m.contains x.name=m'.contains x.name:=by
    rw[HK];simp[h]
   simp only[dv,e]
   rw[mA (m:=m++[x.name]) (m':=m'++[x.name]) fun y=>by simp[h]]
theorem Tran.old(h:Tran a names){i:Nat}(hi:i<a.dims.length):∃ j:Nat,j<names.length∧aY (ee a names).dims (at_ a.dims i).name=(j:Int)∧at_ (ixs a.dims names) j=(i:Int):=by
 obtain⟨j,hj,he⟩:=h.onto hi
 refine⟨j,hj,eD (by rw[h.nms];exact h.namesNd) (by show j<(af _ _).length;rw[bc,dB];exact hj) ?_,he⟩
 show (at_ (af a.dims (ixs a.dims names)) j).name=_
 rw[cQ (by rw[dB];exact hj),he]
 rfl
theorem Tran.ixold(h:Tran a names){i:Nat}(hi:i<a.dims.length):∃ j:Nat,j<names.length∧at_ (ixs (ee a names).dims (a.dims.map Dim.name)) i=(j:Int)∧at_ (ixs a.dims names) j=(i:Int):=by
 obtain⟨j,h1,h2,h3⟩:=h.old hi
 refine⟨j,h1,?_,h3⟩
 unfold ixs
 rw[aK (by simpa using hi),aK hi]
 exact h2
theorem rY(h:Tran a names){α:Type}[Inhabited α]{l:List α}(hl:l.length=a.dims.length):af (af l (ixs a.dims names)) (ixs (ee a names).dims (a.dims.map Dim.name))=l:=by
 refine cF (by rw[bc];simp[ixs,hl]) fun i hi=>?_
 have hi':i<a.dims.length:=by simpa[bc,ixs] using hi
 obtain⟨j,h1,h2,h3⟩:=h.ixold hi'
 rw[cQ (by simp[ixs];exact hi'),h2]
 show at_ (af l (ixs a.dims names)) j=_
 rw[cQ (by rw[dB];exact h1),h3]
 rfl
theorem rZ(h:Tran a names):(a.cells.map (jl (ixs a.dims names))).Pairwise cx:=by
 rw[HR]
 refine List.Pairwise.imp_of_mem ?_ (bP h.oka.srt)
 intro x y hx hy hd e
 apply hd
 have e1:=rY h (h.cell hx)
 have e2:=rY h (h.cell hy)
 have e':af x.at' (ixs a.dims names)=af y.at' (ixs a.dims names):=e
 rw[e',e2] at e1
 exact e1.symm
theorem BJ(h:Tran a names):OkA (ee a names).dims (ee a names).attrs (ee a names).cells:=by
 obtain⟨a1,a2,a3,a4⟩:=h.oka.dims
 have hs:=aV h.oka.sch
 have hl:(ee a names).dims.length=a.dims.length:=by show (af _ _).length=_;rw[bc,dB,h.len]
 have hdim:∀ i,i<a.dims.length→∃ k:Nat,k<a.dims.length∧at_ (ixs a.dims names) i=(k:Int)∧at_ (ee a names).dims i=at_ a.dims k:=fun i hi=>by
  obtain⟨k,h1,h2,_⟩:=h.ix (i:=i) (by rw[h.len];exact hi)
  refine⟨k,h2,h1,?_⟩
  show at_ (af _ _) i=_
  rw[cQ (by rw[dB,h.len];exact hi),h1];rfl
 refine⟨?_,by show (bI _).length≤_;rw[dy,G2];exact h.oka.few,cH (rZ h),fun x hx=>?_⟩
 ·refine jo (by rw[hl];exact a1) (by rw[hl];exact a2) (fun d hd=>?_) (by rw[h.nms];exact h.namesNd) hs.2.1 hs.2.2.1 ?_
  ·obtain⟨i,hi,rfl⟩:=bt hd
   rw[hl] at hi
   obtain⟨k,hk,_,e⟩:=hdim i hi
   rw[e]
   exact⟨boundsF_ok.2 (a3 k hk).1,(a3 k hk).2⟩
  ·rw[h.nms]
   refine (mA fun x=>?_).trans hs.2.2.2
   constructor
   ·intro hx
    obtain⟨i,hi,rfl⟩:=bt hx
    obtain⟨k,_,h2,h3⟩:=h.ix hi
    exact Hh.2 ⟨_,aW h2,h3⟩
   ·intro hx
    obtain⟨d,hd,rfl⟩:=Hh.1 hx
    obtain⟨i,hi,rfl⟩:=bt hd
    obtain⟨j,hj,he⟩:=h.onto hi
    obtain⟨k,h1,_,h3⟩:=h.ix hj
    rw[he] at h1
    have:i=k:=by omega
    subst this
    rw[h3];exact aW hj
 ·obtain⟨c,hc,rfl⟩:=Hh.1 ((bK _).mem_iff.1 hx)
  obtain⟨h1,h2,h3,h4⟩:=cellF_ok.1 (h.oka.cel c hc)
  have hcl:(jl (ixs a.dims names) c).at'.length=(ee a names).dims.length:=by show (af _ _).length=_;rw[bc,dB,h.len,hl]
  refine cellF_ok.2 ⟨hcl,h2,?_,h4⟩
  rw[bQ h1] at h3
  rw[bQ hcl]
  intro i hi
  rw[hl] at hi
  obtain⟨k,hk,e1,e2⟩:=hdim i hi
  rw[e2]
  show _≤at_ (af c.at' _) i∧at_ (af c.at' _) i≤_
  rw[cQ (by rw[dB,h.len];exact hi),e1]
  exact h3 k hk
theorem yL(h:Tran a names):dp a names=(some (ee a names),0):=by
 rcases mZ a names (iM h.oka) with⟨e,he,h2⟩|⟨_,h2⟩
 ·unfold dp at h2
  rw[if_neg (by unfold ba;rw[iM h.oka];simp),if_neg (by have:=h.len;omega),tL (acc:=[]) h.all (by simpa using h.nd)] at h2
  simp only[dH] at h2
  rw[if_neg (by rw[G2];have:=h.oka.few;omega)] at h2
  simp at h2
 ·exact h2
end
end Go.Proofs.YtpejdgkaapnekaaGreat
