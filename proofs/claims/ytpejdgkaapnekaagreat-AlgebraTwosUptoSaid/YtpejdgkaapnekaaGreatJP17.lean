import Derived.Shelf.SlSortCmp.WholeK
import Derived.Shelf.SlSortCmp.NoneTotal
import Derived.Test.YtpejdgkaapnekaaGreatJP16
import Derived.Test.YtpejdgkaapnekaaGreatJTab
import Derived.Test.YtpejdgkaapnekaaGreatJP15
set_option linter.unusedVariables false
set_option linter.unusedSimpArgs false
set_option maxHeartbeats 1000000
namespace Go.Proofs.YtpejdgkaapnekaaGreat
open Go Go.Abs
attribute [local irreducible] aa OkC aq aC ax aS
set_option maxRecDepth 10000
theorem Fp(l : List Int) : CallA Tryz.prog 129 [.one (.d (aF l))] [] (.one (.d (aF l))) []:=by
 refine enter ag Tryz.func129 rfl (by decide +kernel) rfl fun hok w0 σ0 φ0 M=>?_
 have h1:=hok.1.sl; clear hok; simp only [List.length_map] at h1
 repeat' (first|(refine h1H ?_; (refine h6H ?_; refine cy ag J J J J J J (fun r hr=>?_)))|(refine h1H ?_; (refine h0H ?_; refine bO ag J J J J J (id:=0) J J J J J J J (by simp only [List.length_map,Nat.zero_add]; omega) (by simp only [List.length_map,Nat.zero_add]; omega) ?_))|(refine h5H ?_; first|refine bm (br (dl:=[0]) J) (bV ?_)|refine bm (jM (s:=2) (k:=1) (b:=8) J) (bV ?_))|refine wG ?_|(refine h5H ?_; refine ao J (fun h=>?_) (fun h=>?_)))
 ·have e:=hr (by simpa using h)
  simp only [aF,e]
 ·simp only [cX,aF,List.length_map,Nat.zero_add,List.take_nil,List.nil_append]
  exact congrArg (fun x=>AV.one (AC.d (D.sl _ _ x))) (List.take_of_length_le (by simp))
theorem Fq(l : List Val) : CallA Tryz.prog 144 [.one (.d (bM l))] [] (.one (.d (bM l))) []:=by
 refine enter ag Tryz.func144 rfl (by decide +kernel) rfl fun hok w0 σ0 φ0 M=>?_
 have h1:=hok.1.sl; clear hok; simp only [List.length_map] at h1
 repeat' (first|(refine h1H ?_; (refine h6H ?_; refine cy ag J J J J J J (fun r hr=>?_)))|(refine h1H ?_; (refine h0H ?_; refine bO ag J J J J J (id:=0) J J J J J J J (by simp only [List.length_map,Nat.zero_add]; omega) (by simp only [List.length_map,Nat.zero_add]; omega) ?_))|(refine h5H ?_; first|refine bm (br (dl:=[0]) J) (bV ?_)|refine bm (jM (s:=2) (k:=4) (b:=40) J) (bV ?_))|refine wG ?_|(refine h5H ?_; refine ao J (fun h=>?_) (fun h=>?_)))
 ·have e:=hr (by simpa using h)
  simp only [bM,e]
 ·simp only [cX,bM,List.length_map,Nat.zero_add,List.take_nil,List.nil_append]
  exact congrArg (fun x=>AV.one (AC.d (D.sl _ _ x))) (List.take_of_length_le (by simp))
theorem c97(l : List Dim) : CallA Tryz.prog 97 [.one (.d (aj l))] [] (.one (.d (aj l))) []:=by
 refine enter ag Tryz.func97 rfl (by decide +kernel) rfl fun hok w0 σ0 φ0 M=>?_
 have h1:=hok.1.sl; clear hok; simp only [List.length_map] at h1
 repeat' (first|(refine h1H ?_; (refine h6H ?_; refine cy ag J J J J J J (fun r hr=>?_)))|(refine h1H ?_; (refine h0H ?_; refine bO ag J J J J J (id:=0) J J J J J J J (by simp only [List.length_map,Nat.zero_add]; omega) (by simp only [List.length_map,Nat.zero_add]; omega) ?_))|(refine h5H ?_; first|refine bm (br (dl:=[0]) J) (bV ?_)|refine bm (jM (s:=2) (k:=3) (b:=32) J) (bV ?_))|refine wG ?_|(refine h5H ?_; refine ao J (fun h=>?_) (fun h=>?_)))
 ·have e:=hr (by simpa using h)
  simp only [aj,e]
 ·simp only [cX,aj,List.length_map,Nat.zero_add,List.take_nil,List.nil_append]
  exact congrArg (fun x=>AV.one (AC.d (D.sl _ _ x))) (List.take_of_length_le (by simp))
theorem Fo(l : List Attr) : CallA Tryz.prog 145 [.one (.d (ai l))] [] (.one (.d (ai l))) []:=by
 refine enter ag Tryz.func145 rfl (by decide +kernel) rfl fun hok w0 σ0 φ0 M=>?_
 have h1:=hok.1.sl; clear hok; simp only [List.length_map] at h1
 repeat' (first|(refine h1H ?_; (refine h6H ?_; refine cy ag J J J J J J (fun r hr=>?_)))|(refine h1H ?_; (refine h0H ?_; refine bO ag J J J J J (id:=0) J J J J J J J (by simp only [List.length_map,Nat.zero_add]; omega) (by simp only [List.length_map,Nat.zero_add]; omega) ?_))|(refine h5H ?_; first|refine bm (br (dl:=[0]) J) (bV ?_)|refine bm (jM (s:=2) (k:=2) (b:=24) J) (bV ?_))|refine wG ?_|(refine h5H ?_; refine ao J (fun h=>?_) (fun h=>?_)))
 ·have e:=hr (by simpa using h)
  simp only [ai,e]
 ·simp only [cX,ai,List.length_map,Nat.zero_add,List.take_nil,List.nil_append]
  exact congrArg (fun x=>AV.one (AC.d (D.sl _ _ x))) (List.take_of_length_le (by simp))
end Go.Proofs.YtpejdgkaapnekaaGreat
namespace Go.Abs
open Go Go.Shelf Go.RowKit Go.Lib Go.Sort Go.Proofs
variable {P : Program} {σ : Sig} {φ : Pl} {w : World}
theorem jX{σ : Sig}{φ : Pl}{sto : Sto} : ∀ {ds : List D} {vs : List Value},All2 (Rep σ) ds vs→All2 (RepC σ φ sto) (ds.map AC.d) vs
 | [],[],_=>trivial
 | _::_,_::_,h=>⟨.d h.1,jX h.2⟩
 | [],_::_,h=>h.elim
 | _::_,[],h=>h.elim
theorem mX : ∀ {ds : List D} {vs : List Value},All2 (Rep σ) ds vs→∀ v∈vs,v.oneCell = true
 | [],[],_,v,hv=>by simp at hv
 | _::_,_::_,h,v,hv=>by
   rcases List.mem_cons.1 hv with rfl | hv
   ·exact h.1.oneCell
   ·exact mX h.2 v hv
 | [],_::_,h,_,_=>h.elim
 | _::_,[],h,_,_=>h.elim
theorem zh{M : Nat→Prop}{w w' : World}(h : Kept M w w')(hM : ∀ b,¬ M b) : ∃ q os,w' = grow (w.drewN q) os:=by
 refine ⟨w'.drawn - w.drawn,w'.heap.extract w.heap.size w'.heap.size,?_⟩
 have hh : w'.heap = w.heap ++ w'.heap.extract w.heap.size w'.heap.size:=by
  refine Array.ext_getElem? fun i=>?_
  by_cases hi : i < w.heap.size
  ·rw [Array.getElem?_append_left hi]; exact h.block i hi (hM i)
  ·rw [Array.getElem?_append_right (by omega),Array.getElem?_extract]
   have:=h.size
   by_cases hi2 : i < w'.heap.size
   ·rw [if_pos (by omega)]; congr 1; omega
   ·rw [if_neg (by omega)]; exact Array.getElem?_eq_none (by omega)
 have h1:=h.os; have h2:=h.tape; have h3:=h.output; have h4:=h.drawn
 cases w; cases w'
 simp only [grow,World.drewN] at *
 subst h1 h2 h3
 congr 1
 omega
theorem oC{enc : Value→Value}{w : World}{B off b : Nat}{d : Array Value}(h : b≠B) : (putRow enc w B off d).heap[b]? = w.heap[b]?:=by
 simp only [putRow,mapBlock,Array.getElem?_modify,if_neg (Ne.symm h)]
theorem gU{α : Type}[Inhabited α]{enc : α→List Value}{k : Nat}{w : World}{B off m b : Nat}{d : Array α}{os : Array Obj}(hb : b < w.heap.size)(h : b≠B) :
  (sortWorldK enc k w B off m d os).heap[b]? = w.heap[b]?:=by
 unfold sortWorldK grow putRowK
 show ((putRow id (Sort.ahead w m) B off (flatK enc k d)).heap ++ os)[b]? = _
 rw [Array.getElem?_append_left (by rw [Go.Sort.size_putRow]; exact hb),oC h]
 rfl
theorem sX{α : Type}[Inhabited α]{enc : α→List Value}{k : Nat}{w : World}{B off m : Nat}{d : Array α}{os : Array Obj}{arr : Array Value}{t : TypeId}{fr : Nat×Nat}(h : w.heap[B]? = some (.cells arr t fr)) :
  (sortWorldK enc k w B off m d os).heap[B]? = some (.cells (putCells id off (flatK enc k d) arr) t fr):=by
 unfold sortWorldK grow putRowK
 show ((putRow id (Sort.ahead w m) B off (flatK enc k d)).heap ++ os)[B]? = _
 have hB:=(Array.getElem?_eq_some_iff.1 h).1
 rw [Array.getElem?_append_left (by rw [Go.Sort.size_putRow]; exact hB)]
 simp only [putRow,mapBlock,Array.getElem?_modify,if_true]
 show (w.heap[B]?).map _ = _
 rw [h]; rfl
theorem zi{α : Type}[Inhabited α]{enc : α→List Value}{k : Nat}{w : World}{B off m : Nat}{d : Array α}{os : Array Obj} :
  w.heap.size≤(sortWorldK enc k w B off m d os).heap.size:=by
 unfold sortWorldK grow putRowK
 show w.heap.size≤((putRow id (Sort.ahead w m) B off (flatK enc k d)).heap ++ os).size
 rw [Array.size_append,Go.Sort.size_putRow]
 exact Nat.le_add_right _ _
section
variable {C : Type}
abbrev El(σ : Sig)(k : Nat)(encC : C→List D):={ p : C×List Value // p.2.length = k∧All2 (Rep σ) (encC p.1) p.2 }
set_option maxHeartbeats 1000000 in
theorem xp{ρ : Ren}(L : SlLaysF0.n6 P ρ)(k b : Nat)(hk0 : 0 < k)(aE : ∀ w,(isAgg (ρ.t 24)).run P w = .ok true w)(zE : ∀ w,(Go.sizeOf (ρ.t 24)).run P w = .ok k w)
  (encC : C→List D) (hk : ∀ x,(encC x).length = k) (cf : C→C→Int) (h1 : ∀ x,¬ cf x x < 0) (h2 : ∀ x y z,cf x y < 0→cf y z < 0→cf x z < 0) (h3 : ∀ x y z,¬ cf x y < 0→¬ cf y z < 0→¬ cf x z < 0)
  (g : Nat) (hg : ∀ x y,CallA P g [.agg ((encC x).map .d),.agg ((encC y).map .d)] [] (.one (.d (.int .i64 (cf x y)))) [])
  (eg : ∀ args w,(callFunc g args).run P w = .ok (.enter g args) w)
  (hfn : ∃ fn, P.funcs[ρ.f 6]? = some fn ∧ (fn.name == "runtime.NumGoroutine") = false ∧ fn.body.isSome = true)
  (id : Nat) (cs ss : List C) (hu : ∀ l : List C,l.Perm cs→l.Pairwise (fun x y=>¬ cf y x < 0)→l = ss) :
  CallA P (ρ.f 6) [.one (.own id cs.length),.one (.d (.fn g []))] [(id,.row k b (cs.map encC))] (.tup []) [(id,.row k b (ss.map encC))]:=by
 refine ⟨hfn,fun w σ φ vs hI hA=>?_⟩
 match vs,hA with
 | [v0,v1],hA =>
 obtain ⟨hv0,hv1,_⟩:=hA
 have ev1 : v1 = .func (.func g) #[] #[]:=by
  have hv1 : RepC σ φ _ (.d (.fn g [])) v1:=hv1
  cases hv1.d_inv with
  | fn ws hl _ =>
    have : ws = []:=List.eq_nil_of_length_eq_zero (by simpa using hl)
    subst this; rfl
 subst ev1
 have hlook : look [(id,AObj.row k b (cs.map encC))] id = some (.row k b (cs.map encC)):=by simp [look]
 have hobj:=hI.obj id _ hlook
 by_cases hn : cs = []
 ·subst hn
  have hss : ss = []:=(hu [] (List.Perm.refl _) .nil).symm
  subst hss
  have ev0 : ∃ p c,v0 = .slice p 0 c:=by
   have hv0 : RepC σ φ _ (.own id 0) v0:=hv0
   cases hv0 with
   | ownNil=>exact ⟨_,_,rfl⟩
   | own=>exact ⟨_,_,rfl⟩
   | dead hx=>simp [bu,aZ,look] at hx
  obtain ⟨p,c,rfl⟩:=ev0
  refine (AnyF.slices_SortFunc_none L p c _ w).mono ?_
  rintro e w' ⟨rfl,rfl⟩
  exact ⟨_,σ,φ,rfl,Sig.le_refl _,fun b hb=>.inl hb,hI,⟨[],rfl,trivial⟩,fun i e p h1 h2=>.inr ⟨i,e,p,h1,h2,rfl⟩,fun _ _=>rfl,⟨rfl,rfl,rfl,Nat.le_refl _,Nat.le_refl _,fun _ _ _=>rfl⟩⟩
 ·have hn0 : 0 < cs.length:=List.length_pos_iff.2 hn
  have hv0 : RepC σ φ _ (.own id cs.length) v0:=hv0
  obtain ⟨B,cap0,rfl,hφ⟩ : ∃ B cap,v0 = .slice (some ⟨B,0,none⟩) cs.length cap∧φ id = some (B,cap):=by
   revert hv0; generalize cs.length = m at hn0 ⊢; intro hv0
   cases hv0 with
   | ownNil=>omega
   | own _ _ hp=>exact ⟨_,_,rfl,hp⟩
   | dead hx=>simp [bu,aZ,look] at hx
  rcases hobj with ⟨he,_⟩ | ⟨B',cap,arr,t,vf,hφ',hheap,hsz,hle,h48,hb47,hlen,hcell,hrep,hσ⟩
  ·simp at he; exact absurd he hn
  rw [hφ] at hφ'; cases hφ'
  simp only [List.length_map] at hle h48 hb47 hcell
  have hB : B < w.heap.size:=(Array.getElem?_eq_some_iff.1 hheap).1
  have hel : ∀ i (hi : i < cs.length),((List.range k).map (vf i)).length = k∧All2 (Rep σ) (encC cs[i]) ((List.range k).map (vf i)):=by
   intro i hi
   refine ⟨by simp,All2.of_get (by simp [hk]) fun j x v hx hv=>?_⟩
   have hj : j < k:=by have:=(List.getElem?_eq_some_iff.1 hx).1; rwa [hk] at this
   have hv' : v = vf i j:=by
    rw [List.getElem?_map,List.getElem?_range hj] at hv; simpa using hv.symm
   subst hv'
   exact hrep i j _ _ (by rw [List.getElem?_map,List.getElem?_eq_getElem hi]; rfl) hx
  let mk : (i : Nat)→i < cs.length→El σ k encC:=fun i hi=>⟨(cs[i],(List.range k).map (vf i)),hel i hi⟩
  haveI : Inhabited (El σ k encC):=⟨mk 0 hn0⟩
  let d : Array (El σ k encC):=Array.ofFn (n:=cs.length) fun i=>mk i.1 i.2
  have hds : d.size = cs.length:=by simp [d]
  have hdg : ∀ i (hi : i < cs.length),d[i]! = mk i hi:=by
   intro i hi; rw [getElem!_pos d i (by omega)]; simp [d]
  have hdl : d.toList.map (fun x=>x.1.1) = cs:=by
   refine List.ext_getElem (by simp [hds]) fun i h4 h5=>?_
   simp [d,mk]
  let enc : El σ k encC→List Value:=fun x=>x.1.2
  let cf' : El σ k encC→El σ k encC→Int:=fun x y=>cf x.1.1 y.1.1
  have hO : SWO (ltOf cf') :=
   ⟨fun x=>by simpa [ltOf,cf'] using h1 x.1.1,fun x y z=>by simpa [ltOf,cf'] using h2 x.1.1 y.1.1 z.1.1,fun x y z=>by simpa [ltOf,cf'] using h3 x.1.1 y.1.1 z.1.1⟩
  have hHK : HoldsK enc k w B 0 d:=by
   intro j hj
   rw [size_flatK,hds] at hj
   have hj1 : j / k < cs.length:=Nat.div_lt_of_lt_mul (by rwa [Nat.mul_comm] at hj)
   have hj2 : j % k < k:=Nat.mod_lt _ hk0
   have hc:=hcell (j / k) (j % k) hj1 hj2
   rw [Nat.div_add_mod' j k] at hc
   rw [get_flatK enc k d j (by rw [hds]; exact hj),hdg _ hj1]
   have e : (enc (mk (j / k) hj1))[j % k]! = vf (j / k) (j % k):=by
    rw [getElem!_pos _ _ (by simp [enc,mk]; exact hj2)]; simp [enc,mk]
   rw [e]
   refine ⟨?_,?_⟩
   ·simp only [World.cell?,hheap,Nat.zero_add]
    simpa using hc
   ·simp [World.frozen?,hheap]
  have hsig : ∀ (m : Nat) (os : Array Obj) (dk : Array (El σ k encC)),HInv σ φ [] (sortWorldK enc k w B 0 m dk os):=by
   intro m os dk
   refine ⟨fun b cs' hb=>?_,fun i e h=>by simp [look] at h,fun i i' e e' p p' h=>by simp [look] at h⟩
   obtain ⟨t',f',hh⟩:=hI.sig b cs' hb
   refine ⟨t',f',?_⟩
   rw [gU (Array.getElem?_eq_some_iff.1 hh).1 (by rintro rfl; rw [hσ] at hb; cases hb)]
   exact hh
  have hcmp : CmpLays P g #[] enc k cf' B 0 d.size w:=by
   intro m os dk _ x y
   have hr:=(hg x.1.1 y.1.1).run (sortWorldK enc k w B 0 m dk os) σ φ [.agg (enc x).toArray,.agg (enc y).toArray] (hsig m os dk) ⟨⟨_,rfl,jX x.2.2⟩,⟨_,rfl,jX y.2.2⟩,trivial⟩
   refine Calls.mono hr ?_
   rintro e w' ⟨v,σ',φ',rfl,hret⟩
   obtain ⟨q,os',hq⟩:=zh hret.kept (fun b hb=>by obtain ⟨i,e,p,h,_⟩:=hb; simp [look] at h)
   have hv : v = .int .i64 (cf x.1.1 y.1.1):=by
    have h : RepC σ' φ' [] (.d (.int .i64 (cf x.1.1 y.1.1))) v:=hret.rep
    cases h.d_inv; rfl
   exact ⟨by rw [hv],q,os',hq⟩
  have hS:=AnyQ.slices_SortFunc L k aE zE enc (fun x=>x.2.1) (fun x v hv=>l8 (mX x.2.2 v hv)) cf' hO g #[] B 0 cap0 d w eg hcmp hHK hB (by omega)
  rw [hds] at hS
  refine Calls.mono hS ?_
  rintro e w' ⟨rfl,d',n',os,hperm,hsorted,rfl⟩
  have hd's : d'.size = cs.length:=hperm.1.trans hds
  have hpl : d'.toList.Perm d.toList:=by
   have h:=hperm.2.2
   have e1 : d'.extract 0 cs.length = d':=by rw [← hd's]; simp
   have e2 : d.extract 0 cs.length = d:=by rw [← hds]; simp
   rwa [e1,e2] at h
  have hl : d'.toList.map (fun x=>x.1.1) = ss:=by
   refine hu _ (hdl ▸ hpl.map _) ?_
   rw [List.pairwise_map,List.pairwise_iff_getElem]
   intro i j hi hj hij
   have h:=hsorted i j (Nat.zero_le _) hij (by simpa [hd's] using hj)
   simp only [Array.length_toList] at hi hj
   rw [getElem!_pos d' i hi,getElem!_pos d' j hj] at h
   simpa [ltOf,cf'] using h
  have hssl : ss.length = cs.length:=by rw [← hl]; simp [hd's]
  have hget : ∀ i (hi : i < cs.length) (x : C),ss[i]? = some x→d'[i]!.1.1 = x:=by
   intro i hi x hx
   rw [← hl,List.getElem?_map,Array.getElem?_toList,Array.getElem?_eq_getElem (by omega)] at hx
   rw [getElem!_pos d' i (by omega)]
   simpa using hx
  have hmine : MOf φ [(id,AObj.row k b (cs.map encC))] B:=⟨id,_,_,hlook,hφ,rfl⟩
  refine ⟨_,σ,φ,rfl,Sig.le_refl _,fun b hb=>.inl hb,⟨fun b cs' hb=>?_,fun i e hi=>?_,fun i i' e e' p p' hi hi' hne=>?_⟩,⟨[],rfl,trivial⟩,fun i e p hi hp=>.inr ?_,fun _ _=>rfl,⟨rfl,rfl,rfl,zi,Nat.le_add_right _ _,fun b hb hM=>gU hb (by rintro rfl; exact hM hmine)⟩⟩
  ·obtain ⟨t',f',hh⟩:=hI.sig b cs' hb
   refine ⟨t',f',?_⟩
   rw [gU (Array.getElem?_eq_some_iff.1 hh).1 (by rintro rfl; rw [hσ] at hb; cases hb)]
   exact hh
  ·rcases ae hi with ⟨rfl,rfl⟩ | ⟨_,hi⟩
   ·refine .inr ⟨B,cap0,putCells _root_.id 0 (flatK enc k d') arr,t,fun i j=>(enc d'[i]!)[j]!,hφ,sX hheap,by simp [putCells,hsz],by simpa [hssl] using hle,by simpa [hssl] using h48,by simpa [hssl] using hb47,fun x hx=>?_,fun i j hi hj=>?_,fun i j x dd hx hdd=>?_,hσ⟩
    ·obtain ⟨c,_,rfl⟩:=List.mem_map.1 hx; exact hk c
    ·simp only [List.length_map,hssl] at hi
     have hlt : i * k + j < cs.length * k:=by
      have:=Nat.mul_le_mul_right k (show i + 1≤cs.length from hi); rw [Nat.add_mul,Nat.one_mul] at this; omega
     have hc:=hcell i j hi hj
     simp only [putCells,Array.getElem?_mapIdx,hc,Option.map_some,size_flatK,hd's,Nat.zero_le,true_and,Nat.zero_add,hlt,if_true,Nat.sub_zero]
     rw [get_flatK enc k d' _ (by rw [hd's]; exact hlt)]
     have e1 : (i * k + j) / k = i:=(blk_iff k i _ hk0).1 ⟨by omega,by omega⟩
     have e2 : (i * k + j) % k = j:=by rw [Nat.mod_eq_sub_div_mul,e1]; omega
     rw [e1,e2]; rfl
    ·rw [List.getElem?_map] at hx
     cases hs : ss[i]? with
     | none=>rw [hs] at hx; simp at hx
     | some c =>
       rw [hs] at hx; simp at hx; subst hx
       have hi : i < cs.length:=by rw [← hssl]; exact (List.getElem?_eq_some_iff.1 hs).1
       have e1:=hget i hi c hs
       have ha:=(d'[i]!).2.2
       rw [e1] at ha
       obtain ⟨v,hv,hr⟩:=ha.get hdd
       have : (enc d'[i]!)[j]! = v:=by
        have hv2:=(List.getElem?_eq_some_iff.1 hv)
        exact (getElem!_pos (enc d'[i]!) j hv2.1).trans hv2.2
       show Rep σ dd ((enc d'[i]!)[j]!)
       rw [this]; exact hr
   ·simp [look] at hi
  ·rcases ae hi with ⟨rfl,_⟩ | ⟨_,hi⟩
   ·rcases ae hi' with ⟨rfl,_⟩ | ⟨_,hi'⟩
    ·exact absurd rfl hne
    ·simp [look] at hi'
   ·simp [look] at hi
  ·rcases ae hi with ⟨rfl,_⟩ | ⟨_,hi⟩
   ·rw [hφ] at hp; cases hp; exact hmine
   ·simp [look] at hi
end
end Go.Abs
namespace Go.Proofs.YtpejdgkaapnekaaGreat
open Go Go.Proofs Go.Shelf
def zJ : Go.Shelf.Ren:=⟨fun | 6=>181 | 15=>219 | 14=>231 | 28=>261 | 29=>262 | 20=>271 | 21=>272 | 22=>273 | 23=>274 | 24=>275 | 25=>276 | 26=>277 | 27=>278 | 46=>338 | 47=>295 | 48=>296 | 49=>339 | 50=>340 | 57=>368 | n=>n,fun | 22=>24 | 24=>56 | 25=>172 | 3=>3 | 39=>192 | 0=>0 | 53=>251 | 55=>253 | 4=>4 | 46=>244 | 45=>243 | 50=>119 | 5=>5 | 9=>9 | 66=>278 | 70=>282 | 76=>302 | 77=>303 | n=>n,fun | n=>n⟩
theorem EI : Go.Proofs.SlLaysF0.n6 Tryz.prog zJ:={
 mixed:=by kernel_rfl
 f6:=⟨Tryz.f181.name,by decide,Tryz.func181.trans (congrArg some (by kernel_rfl))⟩
 f14:=⟨Tryz.f231.name,by decide,Tryz.func231.trans (congrArg some (by kernel_rfl))⟩
 f15:=Tryz.func219.trans (congrArg some (by kernel_rfl))
 f20:=⟨Tryz.f271.name,by decide,Tryz.func271.trans (congrArg some (by kernel_rfl))⟩
 f21:=⟨Tryz.f272.name,by decide,Tryz.func272.trans (congrArg some (by kernel_rfl))⟩
 f22:=⟨Tryz.f273.name,by decide,Tryz.func273.trans (congrArg some (by kernel_rfl))⟩
 f23:=⟨Tryz.f274.name,by decide,Tryz.func274.trans (congrArg some (by kernel_rfl))⟩
 f24:=⟨Tryz.f275.name,by decide,Tryz.func275.trans (congrArg some (by kernel_rfl))⟩
 f25:=⟨Tryz.f276.name,by decide,Tryz.func276.trans (congrArg some (by kernel_rfl))⟩
 f26:=⟨Tryz.f277.name,by decide,Tryz.func277.trans (congrArg some (by kernel_rfl))⟩
 f27:=⟨Tryz.f278.name,by decide,Tryz.func278.trans (congrArg some (by kernel_rfl))⟩
 f28:=Tryz.func261.trans (congrArg some (by kernel_rfl))
 f29:=Tryz.func262.trans (congrArg some (by kernel_rfl))
 f46:=⟨Tryz.f338.name,by decide,Tryz.func338.trans (congrArg some (by kernel_rfl))⟩
 f47:=Tryz.func295.trans (congrArg some (by kernel_rfl))
 f48:=Tryz.func296.trans (congrArg some (by kernel_rfl))
 f49:=⟨Tryz.f339.name,by decide,Tryz.func339.trans (congrArg some (by kernel_rfl))⟩
 f50:=⟨Tryz.f340.name,by decide,Tryz.func340.trans (congrArg some (by kernel_rfl))⟩
 f57:=⟨Tryz.f368.name,by decide,Tryz.func368.trans (congrArg some (by kernel_rfl))⟩
 t0:=Tryz.underlying0
 a0:=Tryz.isAgg0
 z0:=Tryz.sizeOf0
 v0:=Tryz.zeroValue0
 t3:=Tryz.underlying3
 a3:=Tryz.isAgg3
 z3:=Tryz.sizeOf3
 v3:=Tryz.zeroValue3
 t4:=Tryz.underlying4
 a4:=Tryz.isAgg4
 z4:=Tryz.sizeOf4
 v4:=Tryz.zeroValue4
 t5:=Tryz.underlying5
 a5:=Tryz.isAgg5
 z5:=Tryz.sizeOf5
 v5:=Tryz.zeroValue5
 t9:=Tryz.underlying9
 a9:=Tryz.isAgg9
 z9:=Tryz.sizeOf9
 v9:=Tryz.zeroValue9
 t22:=Tryz.underlying24
 a22:=Tryz.isAgg24
 z22:=Tryz.sizeOf24
 v22:=Tryz.zeroValue24
 t25:=Tryz.underlying172
 a25:=Tryz.isAgg172
 z25:=Tryz.sizeOf172
 v25:=Tryz.zeroValue172
 t39:=Tryz.underlying192
 a39:=Tryz.isAgg192
 z39:=Tryz.sizeOf192
 v39:=Tryz.zeroValue192
 t45:=Tryz.underlying243
 a45:=Tryz.isAgg243
 z45:=Tryz.sizeOf243
 v45:=Tryz.zeroValue243
 t46:=Tryz.underlying244
 a46:=Tryz.isAgg244
 z46:=Tryz.sizeOf244
 v46:=Tryz.zeroValue244
 t50:=Tryz.underlying119
 a50:=Tryz.isAgg119
 z50:=Tryz.sizeOf119
 v50:=Tryz.zeroValue119
 t53:=Tryz.underlying251
 a53:=Tryz.isAgg251
 z53:=Tryz.sizeOf251
 v53:=Tryz.zeroValue251
 t55:=Tryz.underlying253
 a55:=Tryz.isAgg253
 z55:=Tryz.sizeOf253
 v55:=Tryz.zeroValue253
 t66:=Tryz.underlying278
 a66:=Tryz.isAgg278
 z66:=Tryz.sizeOf278
 v66:=Tryz.zeroValue278
 t70:=Tryz.underlying282
 a70:=Tryz.isAgg282
 z70:=Tryz.sizeOf282
 v70:=Tryz.zeroValue282
 t76:=Tryz.underlying302
 a76:=Tryz.isAgg302
 z76:=Tryz.sizeOf302
 v76:=Tryz.zeroValue302
 t77:=Tryz.underlying303
 a77:=Tryz.isAgg303
 z77:=Tryz.sizeOf303
 v77:=Tryz.zeroValue303 }
end Go.Proofs.YtpejdgkaapnekaaGreat
namespace Go.Proofs.YtpejdgkaapnekaaGreat
open Go Go.Abs
attribute [local irreducible] aa OkC aq aC ax aS
set_option maxRecDepth 10000
def nU(x : Cell) : AV:=.agg ((af x).map .d)
theorem Ft(x y : Cell) : CallA Tryz.prog 182 [nU x,nU y] [] (.one (.d (.int .i64 (aJ x.at' y.at')))) []:=by
 unfold nU af
 simp only [List.map_cons,List.map_nil]
 refine enter ag Tryz.func182 rfl (by decide +kernel) rfl fun hok w0 σ0 φ0 M=>?_
 clear hok
 repeat' (first|(refine h1H ?_; (refine h0H ?_; refine ab J J J J J J J J (c35 _ _) J ?_))|refine wG ?_)
 all_goals (try (((simp_all [av,List.drop_eq_nil_of_le]) <;> exact wL); done))
theorem Fm(id : Nat)(cs ss : List Cell)(hu : ∀ l : List Cell,l.Perm cs→l.Pairwise (fun x y=>¬ aJ y.at' x.at' < 0)→l = ss) :
  CallA Tryz.prog 181 [.one (.own id cs.length),.one (.d (.fn 182 []))] [(id,.row 2 48 (cs.map af))] (.tup []) [(id,.row 2 48 (ss.map af))]:=by
 refine xp EI 2 48 (by omega) Tryz.isAgg56 Tryz.sizeOf56 af (fun _=>rfl) (fun x y=>aJ x.at' y.at') (fun x=>by rw [gx]; omega) (fun x y z h1 h2=>?_) (fun x y z h1 h2=>?_) 182 Ft
  (enters_of Tryz.func182 (by kernel_rfl) rfl) ⟨Tryz.f181,Tryz.func181,by kernel_rfl,by kernel_rfl⟩ id cs ss hu
 ·have:=eX x.at' y.at' z.at' (by omega) (by omega)
  omega
 ·have h3:=fp x.at' y.at'
  have h4:=fp y.at' z.at'
  have h5:=fp x.at' z.at'
  have:=eX z.at' y.at' x.at' (by omega) (by omega)
  omega
theorem kp{α β : Type}(f : α→β)(l : List α) : (l.map f).take l.length = l.map f:=List.take_of_length_le (by simp)
theorem c95(x : Cell)(ha : x.at'.length≤1048576)(hv : x.vals.length≤1048576) : CallA Tryz.prog 95 [nU x] [] (nU x) []:=by
 unfold nU af
 simp only [List.map_cons,List.map_nil]
 refine enter ag Tryz.func95 rfl (by decide +kernel) rfl fun hok w0 σ0 φ0 M=>?_
 clear hok
 repeat' (first|(refine h5H ?_; refine bm (br (dl:=[10,11]) J) (bV ?_))|(refine h3H ?_; (refine h2H ?_; first|refine dB envOk 10 J J J (fA J J J J J J J J (by simp only [List.length_map,Nat.zero_add]; omega) (by simp only [List.length_map,Nat.zero_add]; omega)) J J ?_|refine dB envOk 11 J J J (fA J J J J J J J J (by simp only [List.length_map,Nat.zero_add]; omega) (by simp only [List.length_map,Nat.zero_add]; omega)) J J ?_))|refine wG ?_)
 all_goals
  show AV.agg [.d (.sl 1 8 ((List.take 0 [] ++ List.map aB x.at').take (0 + (List.map aB x.at').length))),.d (.sl 4 40 ((List.take 0 [] ++ List.map aQ x.vals).take (0 + (List.map aQ x.vals).length)))] = _
  simp [aF,bM,kp]
theorem c94(ds : List Dim)(ats : List Attr)(hd : ds.length≤1048576)(ha : ats.length≤1048576) : CallA Tryz.prog 94 [.one (.d (aj ds)),.one (.d (ai ats))] [] (.agg [.d (aj ds),.d (ai ats),.d .nil]) []:=by
 refine enter ag Tryz.func94 rfl (by decide +kernel) rfl fun hok w0 σ0 φ0 M=>?_
 clear hok
 repeat' (first|(refine h1H ?_; (refine h0H ?_; first|refine bO ag J J J J J (id:=1) J J J J J J J (by simp only [List.length_map,Nat.zero_add]; omega) (by simp only [List.length_map,Nat.zero_add]; omega) ?_|refine bO ag J J J J J (id:=2) J J J J J J J (by simp only [List.length_map,Nat.zero_add]; omega) (by simp only [List.length_map,Nat.zero_add]; omega) ?_))|(refine h5H ?_; refine bm (br (dl:=[1,2]) J) (bV ?_))|refine wG ?_)
 all_goals
  show AV.agg [.d (.sl 3 32 ((List.take 0 [] ++ List.map al ds).take (0 + (List.map al ds).length))),.d (.sl 2 24 ((List.take 0 [] ++ List.map aA ats).take (0 + (List.map aA ats).length))),.d .nil] = _
  simp [aj,ai,kp]
end Go.Proofs.YtpejdgkaapnekaaGreat
namespace Go.Abs
open Go
variable {P : Program} {c : Ctx} {fr : List (Nat×AV)} {sto : Sto}
def nmA(b : Bool×Bool) : Nat:=bif b.1 then 11 else 10
def nmB(b : Bool×Bool) : Nat:=bif b.2 then 13 else 12
def qN(i : Nat) : Nat:=bif Nat.beq i 11 then 10 else bif Nat.beq i 13 then 12 else i
theorem tT{α : Type}{f a b : List (Nat×α)}(h1 : SubL f a)(h2 : SubL f b) : SubL f (a ++ b):=by
 induction a with
 | nil=>exact h2
 | cons p r ih=>exact ⟨h1.1,ih h1.2⟩
theorem wv{f f' : List (Nat×AV)}{s s' : Sto}(hf : SubL f f')(hs : SubL s s') : Imp c ⟨f,s⟩ ⟨f',s'⟩:=Imp.trans (j7 hf) (Bb hs)
theorem dy{α : Type}{body : Code}{Q : Exit→St→Prop}(rg : Nat)(hrg : gr body = rg){fr1 : List (Nat×AV)}{sto1 : Sto}(ha : Imp c ⟨fr,sto⟩ ⟨fr1,sto1⟩)(kept : List (Nat×AV))(hk : SubL fr1 kept)(L : Bool×Bool→α→List (Nat×AV))(S : Bool×Bool→α→Sto)(Inv : α→Prop)(μ : α→Nat)(x0 : α)
  (hL : SubL fr1 (L (false,false) x0)) (hS : SubL sto1 (S (false,false) x0)) (hq : ∀ b y,Imp c ⟨L b y ++ kept,S b y⟩ ⟨L (false,false) y ++ kept,S (false,false) y⟩) (h0 : Inv x0)
  (hround : ∀ x,Inv x→OkC P c body ⟨L (false,false) x ++ kept,S (false,false) x⟩ (aC (fun st'=>∃ y b,Inv y∧μ y < μ x∧SubL st'.sto (S b y)∧SubL st'.fr (L b y)∧SubL st'.fr kept) Q)) : OkC P c (.loop body) ⟨fr,sto⟩ Q:=by
 refine bm (st':=⟨L (false,false) x0 ++ kept,S (false,false) x0⟩) (Imp.trans ha (wv (tT hL hk) hS)) ?_
 refine nY (fun n st=>∃ x,Inv x∧n = μ x∧st = ⟨L (false,false) x ++ kept,S (false,false) x⟩) (μ x0) ⟨x0,h0,rfl,rfl⟩ ?_
 rintro n st ⟨x,hx,rfl,rfl⟩
 refine iJ (hround x hx) fun e st h=>?_
 cases e with
 | normal =>
   obtain ⟨y,b,hy,hlt,hs,h1,h2⟩:=h
   obtain ⟨f,s⟩:=st
   simp only at hs h1 h2
   exact ⟨μ y,_,hlt,⟨y,hy,rfl,rfl⟩,Imp.trans (wv (tT h1 h2) hs) (hq b y)⟩
 | _=>exact h
section
variable {w0 : World} {σ0 : Sig} {φ0 : Pl} {M : Nat→Prop} {n : Nat} {rd : Option Nat} {mk : List Deferred} {ops : Array Oper} {o : Oper} {rest : List Oper} {K : St→Prop} {st0 : St} {acc : List Tr}
theorem jP(k : Nat)(dl : List Nat){ss : St}{d : Nat}{fop : Operand}{args : Array Operand}{ats : Array TypeId}{f : FuncId}{caps : List D}{avs avs' : List AV}{rav rav' : AV}
  (ho : o.op = .call { callee:=.value fop,args:=args,argTypes:=ats }) (hg : o.guard = none) (hdst : o.dst = some d) (hd : Nat.blt d n = true) (hss : sealL ⟨fr,sto⟩ dl = some ss) (hf : ev ss fop = some (.one (.d (.fn f caps))))
  (ha : evL ss args.toList = some avs) (hD : cm avs = true) (hap : (avs ++ caps.map fun x=>.one (.d x)) = avs') (hC : CallA P f avs' [] rav [])
  (hk : (cA [] [] && Nat.ble (k + 16) 1000000 && dp [] rav && bt [] []) = true) (hfresh : jK k ⟨fr,dn dl sto⟩ = true) (hr : dF (rn k []) rav = rav')
  (h : aa P ⟨w0,σ0,φ0,M,n,rd,mk⟩ ops rest ⟨(d,rav')::fr,dn dl sto⟩ K) : aa P ⟨w0,σ0,φ0,M,n,rd,mk⟩ ops (o::rest) ⟨fr,sto⟩ K:=by
 subst hap; subst hr
 exact iX k dl ho hg (by rw [hdst]; exact hd) hss hf ha hD hC hk (mh hfresh) (by rw [hdst]; exact h)
end
theorem b6{V : Env}{st : St}{o : Oper}{id i n k b k' b' : Nat}{t t2 : TypeId}{x y : Operand}{v : AV}{xs ys : List (List D)}{e : TypeId}{z : List D}{q : TypeId×Nat×Nat×List D}
  (ho : o.op = .call { callee:=.builtin .append,args:=⟨[x,y]⟩,argTypes:=⟨[t,t2]⟩ }) (ht : aN V.T t = some (e,k,b,z)) (ht2 : aN V.T t2 = some q) (hx : ev st x = some (.one (.own i n))) (hl : look st.sto i = some (.row k' b' xs))
  (hkb : (Nat.beq k k' && Nat.beq b b') = true) (hy : ev st y = some v) (hs : dZ st k v = some ys) (hn : n≤100000000) (hys : ys.length≤10000000) (hb : b≤100) :
  aM V st o id = some ⟨.one (.own id (n + ys.length)),[(id,some (.row k b (xs.take n ++ ys))),(i,none)],[id]⟩ :=
 fA ho ht ht2 hx hl hkb hy hs (by omega) (Nat.le_trans (Nat.mul_le_mul (show n + ys.length≤110000000 by omega) hb) (by omega))
end Go.Abs
namespace Go.Proofs.YtpejdgkaapnekaaGreat
open Go Go.Abs
attribute [local irreducible] aa OkC aq aC ax aS
set_option maxRecDepth 10000
theorem FR(nm : List UInt8)(lo hi : Int) : CallA Tryz.prog 139 [.agg [.d (.str nm),.d (.int .i64 lo),.d (.int .i64 hi)]] [] (.one (.d (.str nm))) []:=by
 refine enter ag Tryz.func139 rfl (by decide +kernel) rfl fun hok w0 σ0 φ0 M=>?_
 repeat' (first|refine wG ?_)
 all_goals (try (((simp_all [av,List.drop_eq_nil_of_le]) <;> exact wL); done))
theorem FT(nm : List UInt8)(t : Int) : CallA Tryz.prog 151 [.agg [.d (.str nm),.d (.int .i64 t)]] [] (.one (.d (.str nm))) []:=by
 refine enter ag Tryz.func151 rfl (by decide +kernel) rfl fun hok w0 σ0 φ0 M=>?_
 repeat' (first|refine wG ?_)
 all_goals (try (((simp_all [av,List.drop_eq_nil_of_le]) <;> exact wL); done))
theorem FU(nm name : List UInt8)(lo hi : Int) : CallA Tryz.prog 245 [.agg [.d (.str nm),.d (.int .i64 lo),.d (.int .i64 hi)],.one (.d (.ptr [.fn 139 []])),.one (.d (.ptr [.str name]))] [] (.one (.d (.bool (nm == name)))) []:=by
 refine enter ag Tryz.func245 rfl (by decide +kernel) rfl fun hok w0 σ0 φ0 M=>?_
 repeat' (first|(refine h3H ?_; (refine h2H ?_; refine d_l J J (bw J J J J J J (FR _ _ _) J) ?_))|refine wG ?_)
 all_goals (try (((simp_all [av,List.drop_eq_nil_of_le]) <;> exact wL); done))
theorem FV(nm name : List UInt8)(t : Int) : CallA Tryz.prog 251 [.agg [.d (.str nm),.d (.int .i64 t)],.one (.d (.ptr [.fn 151 []])),.one (.d (.ptr [.str name]))] [] (.one (.d (.bool (nm == name)))) []:=by
 refine enter ag Tryz.func251 rfl (by decide +kernel) rfl fun hok w0 σ0 φ0 M=>?_
 repeat' (first|(refine h3H ?_; (refine h2H ?_; refine d_l J J (bw J J J J J J (FT _ _) J) ?_))|refine wG ?_)
 all_goals (try (((simp_all [av,List.drop_eq_nil_of_le]) <;> exact wL); done))
theorem DZ(f : FuncId)(caps : List D)(p : Dim→Bool)(hp : ∀ d : Dim,CallA Tryz.prog f ([.agg [.d (.str d.name),.d (.int .i64 d.lo),.d (.int .i64 d.hi)]] ++ caps.map fun x=>.one (.d x)) [] (.one (.d (.bool (p d)))) [])(l : List Dim) :
  CallA Tryz.prog 244 [.one (.d (aj l)),.one (.d (.fn f caps))] [] (.one (.d (.int .i64 (aD p l 0)))) []:=by
 refine enter ag Tryz.func244 rfl (by decide +kernel) rfl fun hok w0 σ0 φ0 M=>?_
 have h1:=hok.1.sl; clear hok; simp only [List.length_map] at h1; replace h1:=h1.1
 repeat' (first|(refine h1H ?_; (refine h0H ?_; refine ab J J J J J J J J (hp _) J ?_))|refine wG ?_|(refine h5H ?_; first|refine ao J (fun h=>?_) (fun h=>?_)|refine bc 2 J [(0,_),(1,_),(7,_)] (q3Q J J J) (fun (k : Nat)=>[(8,.one (.d (.int .i64 k)))]) (fun (k : Nat)=>k≤l.length∧aD p l 0 = aD p (l.drop k) k) (fun (k : Nat)=>l.length - k) 0 (q1Q J) ?_ (fun k ⟨hk,hs⟩=>?_))|(show Exists _; refine Exists.intro (k + 1) ⟨?_,?_,wK,(q1Q J),(q3Q J J J)⟩))
 all_goals (try (((simp_all [aD,av,List.drop_eq_nil_of_le]) <;> exact wL); done))
theorem Bu(f : FuncId)(caps : List D)(p : Attr→Bool)(hp : ∀ d : Attr,CallA Tryz.prog f ([.agg [.d (.str d.name),.d (.int .i64 d.type)]] ++ caps.map fun x=>.one (.d x)) [] (.one (.d (.bool (p d)))) [])(l : List Attr) :
  CallA Tryz.prog 250 [.one (.d (ai l)),.one (.d (.fn f caps))] [] (.one (.d (.int .i64 (aD p l 0)))) []:=by
 refine enter ag Tryz.func250 rfl (by decide +kernel) rfl fun hok w0 σ0 φ0 M=>?_
 have h1:=hok.1.sl; clear hok; simp only [List.length_map] at h1; replace h1:=h1.1
 repeat' (first|(refine h1H ?_; (refine h0H ?_; refine ab J J J J J J J J (hp _) J ?_))|refine wG ?_|(refine h5H ?_; first|refine ao J (fun h=>?_) (fun h=>?_)|refine bc 2 J [(0,_),(1,_),(7,_)] (q3Q J J J) (fun (k : Nat)=>[(8,.one (.d (.int .i64 k)))]) (fun (k : Nat)=>k≤l.length∧aD p l 0 = aD p (l.drop k) k) (fun (k : Nat)=>l.length - k) 0 (q1Q J) ?_ (fun k ⟨hk,hs⟩=>?_))|(show Exists _; refine Exists.intro (k + 1) ⟨?_,?_,wK,(q1Q J),(q3Q J J J)⟩))
 all_goals (try (((simp_all [aD,av,List.drop_eq_nil_of_le]) <;> exact wL); done))
theorem FW(l : List Dim)(name : List UInt8) : CallA Tryz.prog 195 [.one (.d (aj l)),.one (.d (.str name)),.one (.d (.fn 139 []))] [] (.one (.d (.int .i64 (aD (fun a : Dim=>a.name == name) l 0)))) []:=by
 refine enter ag Tryz.func195 rfl (by decide +kernel) rfl fun hok w0 σ0 φ0 M=>?_
 repeat' (first|(refine h1H ?_; (refine h0H ?_; refine ab J J J J J J J J (DZ _ _ _ (fun d=>FU _ name _ _) _) J ?_))|refine wG ?_)
 all_goals (try (((simp_all [av,List.drop_eq_nil_of_le]) <;> exact wL); done))
theorem FX(l : List Attr)(name : List UInt8) : CallA Tryz.prog 207 [.one (.d (ai l)),.one (.d (.str name)),.one (.d (.fn 151 []))] [] (.one (.d (.int .i64 (aD (fun a : Attr=>a.name == name) l 0)))) []:=by
 refine enter ag Tryz.func207 rfl (by decide +kernel) rfl fun hok w0 σ0 φ0 M=>?_
 repeat' (first|(refine h1H ?_; (refine h0H ?_; refine ab J J J J J J J J (Bu _ _ _ (fun d=>FV _ name _) _) J ?_))|refine wG ?_)
 all_goals (try (((simp_all [av,List.drop_eq_nil_of_le]) <;> exact wL); done))
theorem xH(ds : List Dim)(ats : List Attr)(cs : D)(name : List UInt8) : CallA Tryz.prog 126 [.agg [.d (aj ds),.d (ai ats),.d cs],.one (.d (.str name))] [] (.one (.d (.int .i64 (aD (fun a : Dim=>a.name == name) ds 0)))) []:=by
 refine enter ag Tryz.func126 rfl (by decide +kernel) rfl fun hok w0 σ0 φ0 M=>?_
 repeat' (first|(refine h1H ?_; (refine h0H ?_; refine ab J J J J J J J J (FW _ _) J ?_))|refine wG ?_)
 all_goals (try (((simp_all [av,List.drop_eq_nil_of_le]) <;> exact wL); done))
theorem FY(ds : List Dim)(ats : List Attr)(cs : D)(name : List UInt8) : CallA Tryz.prog 148 [.agg [.d (aj ds),.d (ai ats),.d cs],.one (.d (.str name))] [] (.one (.d (.int .i64 (aD (fun a : Attr=>a.name == name) ats 0)))) []:=by
 refine enter ag Tryz.func148 rfl (by decide +kernel) rfl fun hok w0 σ0 φ0 M=>?_
 repeat' (first|(refine h1H ?_; (refine h0H ?_; refine ab J J J J J J J J (FX _ _) J ?_))|refine wG ?_)
 all_goals (try (((simp_all [av,List.drop_eq_nil_of_le]) <;> exact wL); done))
def bZ(a : Arr) : Int:=bz a.dims a.attrs a.cells
theorem Gd(a : Arr) : CallA Tryz.prog 180 [aO a] [] (.one (.d (.bool (bZ a != 0)))) []:=by
 unfold aO
 refine enter ag Tryz.func180 rfl (by decide +kernel) rfl fun hok w0 σ0 φ0 M=>?_
 clear hok
 repeat' (first|(refine h1H ?_; (refine h0H ?_; refine ab J J J J J J J J (c59 _ _ _) J ?_))|refine wG ?_)
 all_goals rfl
theorem Ge(l : List Arr) : CallA Tryz.prog 230 [.one (.d (rm l)),.one (.d (.fn 180 []))] [] (.one (.d (.int .i64 (aD (fun a=>bZ a != 0) l 0)))) []:=by
 refine enter ag Tryz.func230 rfl (by decide +kernel) rfl fun hok w0 σ0 φ0 M=>?_
 have h1:=hok.1.sl; clear hok; simp only [List.length_map] at h1; replace h1:=h1.1
 repeat' (first|(refine h1H ?_; (refine h0H ?_; refine ab J J J J J J J J (Gd _) J ?_))|refine wG ?_|(refine h5H ?_; first|refine ao J (fun h=>?_) (fun h=>?_)|refine bc 2 J [(0,_),(1,_),(7,_)] (q3Q J J J) (fun (k : Nat)=>[(8,.one (.d (.int .i64 k)))]) (fun (k : Nat)=>k≤l.length∧aD (fun a=>bZ a != 0) l 0 = aD (fun a=>bZ a != 0) (l.drop k) k) (fun (k : Nat)=>l.length - k) 0 (q1Q J) ?_ (fun k ⟨hk,hs⟩=>?_))|(show Exists _; refine Exists.intro (k + 1) ⟨?_,?_,wK,(q1Q J),(q3Q J J J)⟩))
 all_goals (try (((simp_all [aD,av,List.drop_eq_nil_of_le]) <;> exact wL); done))
theorem Gf(l : List Arr) : CallA Tryz.prog 179 [.one (.d (rm l)),.one (.d (.fn 180 []))] [] (.one (.d (.bool (!decide (aD (fun a=>bZ a != 0) l 0 < 0))))) []:=by
 refine enter ag Tryz.func179 rfl (by decide +kernel) rfl fun hok w0 σ0 φ0 M=>?_
 clear hok
 repeat' (first|(refine h1H ?_; (refine h0H ?_; refine ab J J J J J J J J (Ge _) J ?_))|refine wG ?_)
 all_goals (try (((simp_all [av,List.drop_eq_nil_of_le]) <;> exact wL); done))
def bF(l : List Arr) : Bool:=l.all fun a=>bZ a == 0
theorem qo : ∀ (l : List Arr) (j : Nat),aD (fun a=>bZ a != 0) l j < 0↔bF l = true
 | [],j=>by simp [aD,bF]
 | a::l,j=>by
   have ih:=qo l (j + 1)
   simp only [aD,bF,List.all_cons,Bool.and_eq_true]
   by_cases h : bZ a = 0
   ·rw [if_neg (by simp [h])]
    rw [ih]
    simp [h,bF]
   ·rw [if_pos (by simp [h])]
    constructor
    ·intro h1; omega
    ·intro h1; simp [h] at h1
theorem zN(l : List Arr)(j : Nat) : decide (aD (fun a=>bZ a != 0) l j < 0) = bF l:=by
 rw [Bool.eq_iff_iff,decide_eq_true_eq,qo]
theorem c96(l : List Arr) : CallA Tryz.prog 96 [.one (.d (rm l))] [] (.one (.d (.bool (bF l)))) []:=by
 refine enter ag Tryz.func96 rfl (by decide +kernel) rfl fun hok w0 σ0 φ0 M=>?_
 clear hok
 repeat' (first|(refine h1H ?_; (refine h0H ?_; refine ab J J J J J J J J (Gf _) J ?_))|refine wG ?_)
 all_goals (try (((simp_all [zN,av,List.drop_eq_nil_of_le]) <;> exact wL); done))
theorem Gg(x y : Dim) : CallA Tryz.prog 197 [.agg [.d (.str x.name),.d (.int .i64 x.lo),.d (.int .i64 x.hi)],.agg [.d (.str y.name),.d (.int .i64 y.lo),.d (.int .i64 y.hi)]] [] (.one (.d (.bool (x.name == y.name)))) []:=by
 refine enter ag Tryz.func197 rfl (by decide +kernel) rfl fun hok w0 σ0 φ0 M=>?_
 clear hok
 repeat' (first|refine wG ?_)
 all_goals (try (((simp_all [av,List.drop_eq_nil_of_le]) <;> exact wL); done))
theorem Gh(a b : List Dim) : CallA Tryz.prog 196 [.one (.d (aj a)),.one (.d (aj b)),.one (.d (.fn 197 []))] [] (.one (.d (.bool (cq a b)))) []:=by
 refine enter ag Tryz.func196 rfl (by decide +kernel) rfl fun hok w0 σ0 φ0 M=>?_
 have h1:=hok.1.sl; have h2:=hok.2.1.sl; clear hok; simp only [List.length_map] at h1 h2; replace h1:=h1.1; replace h2:=h2.1
 repeat' (first|(refine h1H ?_; (refine h0H ?_; refine ab J J J J J J J J (Gg _ _) J ?_))|refine wG ?_|(refine h5H ?_; first|refine ao J (fun h=>?_) (fun h=>?_)|refine bc 4 J [(1,_),(2,_),(15,_),(16,_)] (q4Q J J J J) (fun (k : Nat)=>[(17,.one (.d (.int .i64 k)))]) (fun (k : Nat)=>k≤a.length∧a.length = b.length∧cq a b = cC (fun x y=>x.name == y.name) (a.drop k) (b.drop k)) (fun (k : Nat)=>a.length - k) 0 (q1Q J) ?_ (fun k ⟨hk,hq,hs⟩=>?_))|(show Exists _; refine Exists.intro (k + 1) ⟨?_,?_,wK,(q1Q J),(q4Q J J J J)⟩))
 all_goals (try (((simp_all [cq,aP,cC,av,List.drop_eq_nil_of_le]) <;> exact wL); done))
theorem nu(a b : List Dim) : CallA Tryz.prog 127 [.one (.d (aj a)),.one (.d (aj b))] [] (.one (.d (.bool (cq a b)))) []:=by
 refine enter ag Tryz.func127 rfl (by decide +kernel) rfl fun hok w0 σ0 φ0 M=>?_
 clear hok
 repeat' (first|(refine h1H ?_; (refine h0H ?_; refine ab J J J J J J J J (Gh _ _) J ?_))|refine wG ?_)
 all_goals (try (((simp_all [av,List.drop_eq_nil_of_le]) <;> exact wL); done))
theorem Gi(a b : List Dim) : CallA Tryz.prog 120 [.one (.d (aj a)),.one (.d (aj b))] [] (.one (.d (.bool (aP cL a b)))) []:=by
 refine enter ag Tryz.func120 rfl (by decide +kernel) rfl fun hok w0 σ0 φ0 M=>?_
 have h1:=hok.1.sl; have h2:=hok.2.1.sl; clear hok; simp only [List.length_map] at h1 h2; replace h1:=h1.1; replace h2:=h2.1
 repeat' (first|refine wG ?_|(refine h5H ?_; first|refine ao J (fun h=>?_) (fun h=>?_)|refine bc 4 J [(0,_),(1,_),(12,_)] (q3Q J J J) (fun (k : Nat)=>[(13,.one (.d (.int .i64 k)))]) (fun (k : Nat)=>k≤a.length∧a.length = b.length∧aP cL a b = cC cL (a.drop k) (b.drop k)) (fun (k : Nat)=>a.length - k) 0 (q1Q J) ?_ (fun k ⟨hk,hq,hs⟩=>?_))|(show Exists _; refine Exists.intro (k + 1) ⟨?_,?_,wK,(q1Q J),(q3Q J J J)⟩))
 all_goals (try (((simp_all [aP,cC,cL,al,bX,eqD,av,List.drop_eq_nil_of_le]) <;> exact wL); done))
theorem xT(a b : List Attr) : CallA Tryz.prog 121 [.one (.d (ai a)),.one (.d (ai b))] [] (.one (.d (.bool (aP b8 a b)))) []:=by
 refine enter ag Tryz.func121 rfl (by decide +kernel) rfl fun hok w0 σ0 φ0 M=>?_
 have h1:=hok.1.sl; have h2:=hok.2.1.sl; clear hok; simp only [List.length_map] at h1 h2; replace h1:=h1.1; replace h2:=h2.1
 repeat' (first|refine wG ?_|(refine h5H ?_; first|refine ao J (fun h=>?_) (fun h=>?_)|refine bc 4 J [(0,_),(1,_),(12,_)] (q3Q J J J) (fun (k : Nat)=>[(13,.one (.d (.int .i64 k)))]) (fun (k : Nat)=>k≤a.length∧a.length = b.length∧aP b8 a b = cC b8 (a.drop k) (b.drop k)) (fun (k : Nat)=>a.length - k) 0 (q1Q J) ?_ (fun k ⟨hk,hq,hs⟩=>?_))|(show Exists _; refine Exists.intro (k + 1) ⟨?_,?_,wK,(q1Q J),(q3Q J J J)⟩))
 all_goals (try (((simp_all [aP,cC,b8,aA,bX,eqD,av,List.drop_eq_nil_of_le]) <;> exact wL); done))
theorem EH(id n : Nat)(cs : List Cell)(rows : List (List D))(hr : rows = cs.map af)(hn : n = cs.length)(hd : cs.Pairwise bG) :
  CallA Tryz.prog 181 [.one (.own id n),.one (.d (.fn 182 []))] [(id,.row 2 48 rows)] (.tup []) [(id,.row 2 48 ((bp cs).map af))]:=by
 subst hr; subst hn
 exact Fm id cs (bp cs) (y7 hd)
theorem DG{w0 : World}{σ0 : Sig}{φ0 : Pl}{M : Nat→Prop}{n : Nat}{rd : Option Nat}{mk : List Deferred}{ops : Array Oper}{o : Oper}{rest : List Oper}{fr : List (Nat×AV)}{sto : Sto}{K : St→Prop}{d m : Nat}{fop x y : Operand}{ats : Array TypeId}{rows : List (List D)}(id : Nat)(cs : List Cell)
  (ho : o.op = .call { callee:=.value fop,args:=⟨[x,y]⟩,argTypes:=ats }) (hg : o.guard = none) (hdst : o.dst = some d) (hdn : Nat.blt d n = true) (hf : ev ⟨fr,sto⟩ fop = some (.one (.d (.fn 181 [])))) (hx : ev ⟨fr,sto⟩ x = some (.one (.own id m))) (hy : ev ⟨fr,sto⟩ y = some (.one (.d (.fn 182 []))))
  (hl : Abs.look sto id = some (.row 2 48 rows)) (hr : rows = cs.map af) (hn : m = cs.length) (hd : cs.Pairwise bG) (hfr : jK 16 ⟨fr,sto⟩ = true)
  (h : aa Tryz.prog ⟨w0,σ0,φ0,M,n,rd,mk⟩ ops rest ⟨(d,.tup [])::fr,cg id (.row 2 48 ((bp cs).map af)) (del id sto)⟩ K) : aa Tryz.prog ⟨w0,σ0,φ0,M,n,rd,mk⟩ ops (o::rest) ⟨fr,sto⟩ K:=by
 refine dw 16 [(1000000,id)] (rav':=.tup []) (sto':=cg id (.row 2 48 ((bp cs).map af)) (del id sto)) (EH 1000000 m cs rows hr hn hd) ho hg hdst hdn hf ?_ ⟨⟨id,rfl,hl⟩,trivial⟩ ⟨fun i e h1 h2=>?_,trivial⟩ rfl hfr rfl rfl h
 ·show evL ⟨fr,sto⟩ [x,y] = _
  simp only [evL,hx,hy]
  rfl
 ·have e1 : some id = some i:=h1
  cases e1
  rw [hl] at h2
  cases h2
  refine ⟨rfl,rfl,?_⟩
  rw [hr,List.length_map,List.length_map,fo]
  exact Nat.le_refl _
theorem tB{α β : Type}[Inhabited α](f : α→β)(l : List α){k : Nat}(h : k < l.length) : ((l.take k).map f).take k ++ [f (at_ l k)] = (l.take (k + 1)).map f:=by
 rw [List.take_succ_eq_append_getElem h,List.map_append,List.take_of_length_le (by simp; omega)]
 simp [at_,h]
def er : Option Arr×Int→AV
 | (none,e)=>.tup [(true,[.d .nil,.d .nil,.d .nil]),(false,[.d (.int .i64 e)])]
 | (some a,e)=>.tup [(true,[.d (aj a.dims),.d (ai a.attrs),.d (ak a.cells)]),(false,[.d (.int .i64 e)])]
theorem AS{α β : Type}(f : α→β){l : List α}{k : Nat}(h : l.length≤k) : (l.take k).map f = l.map f:=by rw [List.take_of_length_le h]
theorem c99(ds : List Dim)(ats : List Attr)(cs : List Cell)(hd : cs.Pairwise bG) : CallA Tryz.prog 99 [.one (.d (aj ds)),.one (.d (ai ats)),.one (.d (ak cs))] [] (er (dx ds ats cs)) []:=by
 refine enter ag Tryz.func99 rfl (by decide +kernel) rfl fun hok w0 σ0 φ0 M=>?_
 have h1:=hok.2.2.1.sl; clear hok; simp only [List.length_map] at h1; replace h1:=h1.1
 by_cases h4 : 4096 < (cs.length : Int)
 ·have hb : decide (4096 < ((cs.map af).length : Int)) = true:=by simpa using h4
  simp only [dx,if_pos h4,er]
  repeat' (first|refine wG ?_)
  all_goals rfl
 ·have hb : decide (4096 < ((cs.map af).length : Int)) = false:=by simpa using h4
  simp only [dx,if_neg h4,er]
  repeat' (first|(refine h1H ?_; (refine h0H ?_; first|refine DG 10 cs J J J J J J J J (hr.trans (AS _ (by first|omega|(simp only [decide_eq_true_eq,decide_eq_false_iff_not,List.length_map] at *; omega)))) (by first|omega|(simp only [decide_eq_true_eq,decide_eq_false_iff_not,List.length_map] at *; omega)) hd J ?_|refine bh 16 J J J J J J J J (c97 _) J J J ?_|refine bh 16 J J J J J J J J (Fo _) J J J ?_))|(refine h5H ?_; refine bm (br (dl:=[10]) J) (bV ?_))|(refine h3H ?_; (refine h2H ?_; first|refine di 16 J J J J J J J J (Fp _) J J ?_|refine di 16 J J J J J J J J (Fq _) J J ?_))|refine wG ?_|(refine h5H ?_; first|refine ao J (fun h=>?_) (fun h=>?_)|refine dy 5 J (gL 1 2 10 (k:=2) (b:=48) J J (by kernel_rfl)) [(6,_),(8,_),(20,_),(21,_)] (q4Q J J J J) (fun (bN : Bool×Bool) (p : Nat×List (List D))=>[(22,.one (.d (.int .i64 (p.1 : Int))))]) (fun (bN : Bool×Bool) (p : Nat×List (List D))=>[(1,.box [.d (aj ds),.d (ai ats),.own (nmA bN) p.1]),((nmA bN),.row 2 48 p.2),(0,.box [.d .nil,.d .nil,.d .nil])]) (fun (p : Nat×List (List D))=>p.1≤cs.length∧p.2 = (cs.take p.1).map af) (fun (p : Nat×List (List D))=>cs.length - p.1) (0,[]) (q1Q J) wK (fun b y=>by obtain ⟨b1,b2⟩:=b; cases b1 <;> cases b2 <;> first|exact Imp.refl _|exact dz qN (by kernel_rfl)) ?_ (fun p ⟨hk,hr⟩=>?_))|(show Exists _; refine Exists.intro ((p.1 + 1,p.2.take p.1 ++ [af (at_ cs p.1)])) (Exists.intro (true,false) ⟨?_,?_,wK,(q1Q J),(q4Q J J J J)⟩)))
  ·exact ⟨Nat.zero_le _,rfl⟩
  ·have hlt : p.1 < cs.length:=by simpa using h
   exact ⟨hlt,by show p.2.take p.1 ++ _ = _; rw [hr]; exact tB _ _ hlt⟩
  ·have hlt : p.1 < cs.length:=by simpa using h
   show cs.length - (p.1 + 1) < cs.length - p.1
   omega
  ·have hge : cs.length≤p.1:=by simpa using h
   show AV.tup [(true,[.d (aj ds),.d (ai ats),.d (.sl 2 48 (((bp cs).map af).take p.1))]),_] = _
   rw [List.take_of_length_le (by simp only [List.length_map,fo]; exact hge)]
   rfl
theorem jt(l : List Dim)(hne : 0 < l.length) : CallA Tryz.prog 97 [.one (.d (aj l))] [] (.one (.own 0 l.length)) [(0,.row 3 32 (l.map al))]:=by
 refine enter ag Tryz.func97 rfl (by decide +kernel) rfl fun hok w0 σ0 φ0 M=>?_
 have h1:=hok.1.sl; clear hok; simp only [List.length_map] at h1
 repeat' (first|(refine h1H ?_; (refine h6H ?_; refine cy ag J J J J J J (fun r hr=>?_)))|(refine h1H ?_; (refine h0H ?_; refine bO ag J J J J J (id:=0) J J J J J J J (by simp only [List.length_map,Nat.zero_add]; omega) (by simp only [List.length_map,Nat.zero_add]; omega) ?_))|refine wG ?_|(refine h5H ?_; refine ao J (fun h=>?_) (fun h=>?_)))
 ·have e:=hr (by simpa using h)
  simp only [List.map_eq_nil_iff] at e
  subst e; simp at hne
 ·simp
theorem Fs(ds : List Dim)(ats : List Attr)(cs : List Cell)(xs ys : List (List D))(hd : cs.Pairwise bG)(hx : xs = ds.map al)(hy : ys = cs.map af) : CallA Tryz.prog 99 [.one (.d (.sl 3 32 xs)),.one (.d (ai ats)),.one (.d (.sl 2 48 ys))] [] (er (dx ds ats cs)) []:=by
 subst hx; subst hy; exact c99 ds ats cs hd
theorem AT(ds : List Dim)(ats : List Attr)(cs : List Cell)(xs ys : List (List D))(hd : cs.Pairwise bG)(hf : cs.length≤4096)(hx : xs = ds.map al)(hy : ys = cs.map af) : CallA Tryz.prog 99 [.one (.d (.sl 3 32 xs)),.one (.d (ai ats)),.one (.d (.sl 2 48 ys))] [] (.tup [(true,[.d (aj ds),.d (ai ats),.d (ak (bp cs))]),(false,[.d (.int .i64 0)])]) []:=by
 have h:=Fs ds ats cs xs ys hd hx hy
 unfold dx at h
 rw [if_neg (by omega)] at h
 exact h
def nh(a : Arr) : Prop:=a.dims.length≤1048576∧a.attrs.length≤1048576∧a.cells.length≤1048576∧∀ k,k < a.cells.length→(at_ a.cells k).at'.length≤1048576∧(at_ a.cells k).vals.length≤1048576
theorem c22(a : Arr)(hs : nh a) : CallA Tryz.prog 22 [aO a] [] (aO a) []:=by
 have hcs:=hs.2.2.1
 unfold aO
 refine enter ag Tryz.func22 rfl (by decide +kernel) rfl fun hok w0 σ0 φ0 M=>?_
 clear hok
 repeat' (first|(refine h1H ?_; (refine h0H ?_; refine bh 16 J J J J J J J J (c94 _ _ hs.1 hs.2.1) J J J ?_))|(refine h5H ?_; refine bm (br (dl:=[10]) J) (bV ?_))|(refine h3H ?_; (refine h2H ?_; refine di 16 J J J J J J J J (c95 _ (hs.2.2.2 _ wB).1 (hs.2.2.2 _ wB).2) J J ?_))|refine wG ?_|(refine h5H ?_; first|refine ao J (fun h=>?_) (fun h=>?_)|refine dy 3 J (gL 2 2 10 (k:=2) (b:=48) J J (by kernel_rfl)) [(1,_),(2,_),(3,_)] (q3Q J J J) (fun (bN : Bool×Bool) (p : Nat×List (List D))=>[(4,.one (.d (.int .i64 (p.1 : Int))))]) (fun (bN : Bool×Bool) (p : Nat×List (List D))=>[(2,.box [.d (aj a.dims),.d (ai a.attrs),.own (nmA bN) p.1]),((nmA bN),.row 2 48 p.2),(1,.box [.d .nil,.d .nil,.d .nil]),(0,.box [.d (aj a.dims),.d (ai a.attrs),.d (ak a.cells)])]) (fun (p : Nat×List (List D))=>p.1≤a.cells.length∧p.2 = (a.cells.take p.1).map af) (fun (p : Nat×List (List D))=>a.cells.length - p.1) (0,[]) (q1Q J) wK (fun b y=>by obtain ⟨b1,b2⟩:=b; cases b1 <;> cases b2 <;> first|exact Imp.refl _|exact dz qN (by kernel_rfl)) ?_ (fun p ⟨hk,hr⟩=>?_))|(show Exists _; refine Exists.intro ((p.1 + 1,p.2.take p.1 ++ [af (at_ a.cells p.1)])) (Exists.intro (true,false) ⟨?_,?_,wK,(q1Q J),(q3Q J J J)⟩)))
 ·exact ⟨Nat.zero_le _,rfl⟩
 ·have hlt : p.1 < a.cells.length:=by simpa using h
  exact ⟨hlt,by show p.2.take p.1 ++ _ = _; rw [hr]; exact tB _ _ hlt⟩
 ·have hlt : p.1 < a.cells.length:=by simpa using h
  show a.cells.length - (p.1 + 1) < a.cells.length - p.1
  omega
 ·have hge : a.cells.length≤p.1:=by simpa using h
  show AV.agg [.d (aj a.dims),.d (ai a.attrs),.d (.sl 2 48 (p.2.take p.1))] = _
  rw [hr,List.take_of_length_le (by simp; omega),List.take_of_length_le hge]
  rfl
end Go.Proofs.YtpejdgkaapnekaaGreat
namespace Go.Proofs.YtpejdgkaapnekaaGreat
open Go Go.Abs
theorem sj{a : Arr}(h : D9 (1048571 + 3) a) : nh a:=by
 obtain ⟨h1,h2,h3,h4⟩:=h
 refine ⟨Nat.le_trans h1.1 (by omega),Nat.le_trans h2.1 (by omega),Nat.le_trans h3 (by omega),fun k hk=>?_⟩
 have:=h4 _ (aX hk)
 exact ⟨Nat.le_trans this.1 (by omega),Nat.le_trans this.2 (by omega)⟩
end Go.Proofs.YtpejdgkaapnekaaGreat
