import Derived.Test.YtpejdgkaapnekaaGreatJP17
import Derived.Test.YtpejdgkaapnekaaGreatJP18
import Derived.Test.YtpejdgkaapnekaaGreatJP16
import Derived.Test.YtpejdgkaapnekaaGreatJP15
set_option linter.unusedVariables false
set_option linter.unusedSimpArgs false
set_option maxHeartbeats 1000000
namespace Go.Proofs.YtpejdgkaapnekaaGreat
open Go Go.Abs
attribute [local irreducible] aa OkC aq aC ax aS
set_option maxRecDepth 10000
theorem FP(ds : List Dim)(ats : List Attr)(cs : D)(name : List UInt8) : CallA Tryz.prog 113 [.agg [.d (aj ds),.d (ai ats),.d cs],.one (.d (.str name))] [] (.one (.d (.bool (decide (0≤bk ds name) || decide (0≤atX ats name))))) []:=by
 refine enter ag Tryz.func113 rfl (by decide +kernel) rfl fun hok w0 σ0 φ0 M=>?_
 clear hok
 repeat' (first|(refine h1H ?_; (refine h0H ?_; first|refine ab J J J J J J J J (ml _ _) J ?_|refine ab J J J J J J J J (FO _ _) J ?_))|refine wG ?_|(refine h1H ?_; (refine h4H ?_; refine bn J J J J (fun h=>?_) (fun h=>?_))))
 all_goals (try (((simp_all [bk,atX,av,List.drop_eq_nil_of_le]) <;> exact wL); done))
theorem zI{l : List Cell}(hs : l.Pairwise ltC){i j : Nat}(hij : i < j)(hj : j < l.length) : ltC (at_ l i) (at_ l j):=by
 have h:=List.pairwise_iff_getElem.1 hs i j (by omega) hj hij
 have e1:=cZ (l:=l) (i:=i) (by omega)
 have e2:=cZ (l:=l) (i:=j) hj
 rw [List.getElem?_eq_getElem (by omega)] at e1 e2
 rw [← Option.some.inj e1,← Option.some.inj e2]
 exact h
theorem uh{l : List Cell}(hs : l.Pairwise ltC){x : List Int}{m j : Nat}(hm : m < l.length)(h : aJ (at_ l m).at' x < 0)(hj : j≤m) : aJ (at_ l j).at' x < 0:=by
 rcases Nat.lt_or_ge j m with h1 | h1
 ·exact gB (x:=at_ l j) (y:=at_ l m) (z:=⟨x,[]⟩) (zI hs h1 hm) h
 ·rw [show j = m by omega]; exact h
theorem Br{l : List Cell}(hs : l.Pairwise ltC){x : List Int}{m j : Nat}(h : ¬ aJ (at_ l m).at' x < 0)(hj : m≤j)(hjl : j < l.length) : ¬ aJ (at_ l j).at' x < 0:=fun h2=>h (uh hs hjl h2 hj)
theorem FQ(l : List Cell)(x : List Int)(hs : l.Pairwise ltC) : CallA Tryz.prog 194 [.one (.d (ak l)),.one (.d (aF x))] [] (.one (.d (.int .i64 (dI x l)))) []:=by
 refine enter ag Tryz.func194 rfl (by decide +kernel) rfl fun hok w0 σ0 φ0 M=>?_
 have h1:=hok.1.sl; clear hok; simp only [List.length_map] at h1; replace h1:=h1.1
 repeat' (first|(refine h1H ?_; (refine xO ?_; refine s_e envOk J J J (jC J J J J (by omega) (by omega) (ic (by omega) (by omega))) ?_))|(refine h1H ?_; (refine h0H ?_; refine ab J J J J J J J J (xG _ _) J ?_))|refine wG ?_|(refine h5H ?_; first|refine ao J (fun h=>?_) (fun h=>?_)|refine bc 2 J [(0,_),(1,_)] (q2Q J J) (fun (p : Nat×Nat)=>[(5,.one (.d (.int .i64 (p.1 : Int)))),(6,.one (.d (.int .i64 (p.2 : Int))))]) (fun (p : Nat×Nat)=>p.1≤p.2∧p.2≤l.length∧(∀ j,j < p.1→aJ (at_ l j).at' x < 0)∧(∀ j,p.2≤j→j < l.length→¬ aJ (at_ l j).at' x < 0)) (fun (p : Nat×Nat)=>p.2 - p.1) (0,(l.map af).length) (q2Q J J) ?_ (fun p ⟨hp1,hp2,hp3,hp4⟩=>?_))|(show Exists _; first|refine Exists.intro (((p.1 + p.2) / 2 + 1,p.2)) ⟨?_,?_,wK,(q2Q J J),(q2Q J J)⟩|refine Exists.intro ((p.1,(p.1 + p.2) / 2)) ⟨?_,?_,wK,(q2Q J J),(q2Q J J)⟩))
 ·exact ⟨Nat.zero_le _,by simp,fun j hj=>absurd hj (Nat.not_lt_zero _),fun j h1 h2=>by simp at h1; omega⟩
 ·have hlt : p.1 < p.2:=by simpa using ‹decide ((p.1 : Int) < (p.2 : Int)) = true›
  have hm : (((p.1 : Int) + (p.2 : Int)) / 2).toNat = (p.1 + p.2) / 2:=by omega
  have h' : aJ (at_ l ((p.1 + p.2) / 2)).at' x < 0:=by have:=of_decide_eq_true h; rwa [hm] at this
  refine ⟨by show (p.1 + p.2) / 2 + 1≤p.2; omega,hp2,fun j hj=>uh hs (by omega) h' (by have : j < (p.1 + p.2) / 2 + 1:=hj; omega),hp4⟩
 ·have hlt : p.1 < p.2:=by simpa using ‹decide ((p.1 : Int) < (p.2 : Int)) = true›
  show p.2 - ((p.1 + p.2) / 2 + 1) < p.2 - p.1
  omega
 ·have hlt : p.1 < p.2:=by simpa using ‹decide ((p.1 : Int) < (p.2 : Int)) = true›
  have hm : (((p.1 : Int) + (p.2 : Int)) / 2).toNat = (p.1 + p.2) / 2:=by omega
  have h' : ¬ aJ (at_ l ((p.1 + p.2) / 2)).at' x < 0:=by have:=of_decide_eq_false h; rwa [hm] at this
  exact ⟨by show p.1≤(p.1 + p.2) / 2; omega,by show (p.1 + p.2) / 2≤l.length; omega,hp3,fun j h1 h2=>Br hs h' h1 h2⟩
 ·have hlt : p.1 < p.2:=by simpa using ‹decide ((p.1 : Int) < (p.2 : Int)) = true›
  show (p.1 + p.2) / 2 - p.1 < p.2 - p.1
  omega
 ·have hge : p.2≤p.1:=by simpa using h
  rw [Bt hs (by omega) hp3 (fun j h1 h2=>hp4 j (by omega) h2)]
theorem DY(l : List Cell)(x : List Int)(hs : l.Pairwise ltC) : CallA Tryz.prog 117 [.one (.d (ak l)),.one (.d (aF x))] [] (.one (.d (.int .i64 (if fx l x then (dI x l : Int) else -1)))) []:=by
 refine enter ag Tryz.func117 rfl (by decide +kernel) rfl fun hok w0 σ0 φ0 M=>?_
 have h1:=hok.1.sl; clear hok; simp only [List.length_map] at h1; replace h1:=h1.1
 repeat' (first|(refine h1H ?_; (refine h0H ?_; first|refine ab J J J J J J J J (FQ _ _ hs) J ?_|refine ab J J J J J J J J (xG _ _) J ?_))|refine wG ?_|(refine h1H ?_; (refine h4H ?_; refine bn J J J J (fun h=>?_) (fun h=>?_)))|(refine h5H ?_; refine ao J (fun h=>?_) (fun h=>?_)))
 all_goals (try (((simp_all [fx,av,List.drop_eq_nil_of_le]) <;> exact wL); done))
theorem Gr(a b : Arr) : CallA Tryz.prog 158 [aO a,aO b] [] (.one (.d (.bool (iE a b)))) []:=by
 unfold aO
 refine enter ag Tryz.func158 rfl (by decide +kernel) rfl fun hok w0 σ0 φ0 M=>?_
 have h1:=OkD.sl (hok.1 (.d (aj a.dims)) (by simp)); clear hok; simp only [List.length_map] at h1; replace h1:=h1.1
 repeat' (first|(refine h3H ?_; (refine h2H ?_; refine d_l J J (bw J J J J J J (ml _ _) J) ?_))|refine wG ?_|(refine h5H ?_; first|refine ao J (fun h=>?_) (fun h=>?_)|refine bc 2 J [(2,_),(3,_)] (q2Q J J) (fun (k : Nat)=>[(5,.one (.d (.int .i64 k)))]) (fun (k : Nat)=>k≤a.dims.length∧iE a b = (a.dims.drop k).any (fun d=>inD b.dims d.name)) (fun (k : Nat)=>a.dims.length - k) 0 (q1Q J) ?_ (fun k ⟨hk,hs⟩=>?_))|(show Exists _; refine Exists.intro (k + 1) ⟨?_,?_,wK,(q1Q J),(q2Q J J)⟩))
 all_goals (try (((simp_all [iE,inD,bk,av,List.drop_eq_nil_of_le]) <;> exact wL); done))
theorem Gs(a b : Arr) : CallA Tryz.prog 159 [aO a,aO b] [] (.one (.d (.bool (cK a b)))) []:=by
 unfold aO
 refine enter ag Tryz.func159 rfl (by decide +kernel) rfl fun hok w0 σ0 φ0 M=>?_
 have h1:=OkD.sl (hok.1 (.d (ai a.attrs)) (by simp)); clear hok; simp only [List.length_map] at h1; replace h1:=h1.1
 repeat' (first|(refine h3H ?_; (refine h2H ?_; refine d_l J J (bw J J J J J J (FP _ _ _ _) J) ?_))|refine wG ?_|(refine h5H ?_; first|refine ao J (fun h=>?_) (fun h=>?_)|refine bc 2 J [(2,_),(3,_)] (q2Q J J) (fun (k : Nat)=>[(5,.one (.d (.int .i64 k)))]) (fun (k : Nat)=>k≤a.attrs.length∧cK a b = (a.attrs.drop k).any (fun x=>iD b x.name)) (fun (k : Nat)=>a.attrs.length - k) 0 (q1Q J) ?_ (fun k ⟨hk,hs⟩=>?_))|(show Exists _; refine Exists.intro (k + 1) ⟨?_,?_,wK,(q1Q J),(q2Q J J)⟩))
 all_goals (try (((simp_all [cK,iD,av,List.drop_eq_nil_of_le]) <;> exact wL); done))
structure Dok (ds : List Dim) : Prop where
 len : 1≤ds.length∧ds.length≤4
 bnd : ∀ i,i < ds.length→-1073741824≤(at_ ds i).lo∧(at_ ds i).lo≤1073741824∧(at_ ds i).lo≤(at_ ds i).hi∧(at_ ds i).hi≤1073741825
 ext : ∀ i,i < ds.length→1≤(at_ ds i).hi - (at_ ds i).lo + 1
theorem uF{α : Type}[Inhabited α]{p : α→Bool}{l : List α} : decide (0≤aD p l 0) = l.any p:=by
 rw [Bool.eq_iff_iff,decide_eq_true_eq,List.any_eq_true]
 constructor
 ·intro h
  obtain ⟨k,_,h2,h3,_⟩:=iO (p:=p) (l:=l) (j:=0) (by omega)
  exact ⟨_,aX h2,h3⟩
 ·rintro ⟨x,hx,hp⟩
  by_cases h0 : aD p l 0 < 0
  ·have:=ib h0 x hx
   rw [hp] at this; cases this
  ·omega
structure Vok (ds : List Dim) : Prop where
 dok : Dok ds
 fin : ∀ i,i < ds.length→(at_ ds i).hi≤1073741824
 vol : (Gp ds).1 = od ds
 part : ∀ i,i < ds.length→od (ds.take i) * ((at_ ds i).hi - (at_ ds i).lo + 1)≤4611686018427387904
 all : od ds≤4611686018427387904
def j9{α : Type}(Y : List α)(z : α)(k : Nat) : List α:=Y.take k ++ List.replicate (Y.length - k) z
theorem r9{α : Type}[Inhabited α]{Y : List α}{z : α}{k : Nat}(h : k < Y.length) : (j9 Y z k).set k (at_ Y k) = j9 Y z (k + 1):=by
 unfold j9
 have hl : (Y.take k).length = k:=by simp; omega
 obtain ⟨m,hm⟩ : ∃ m,Y.length - k = m + 1:=⟨Y.length - k - 1,by omega⟩
 rw [List.set_append,if_neg (by omega),hl,Nat.sub_self,hm,List.replicate_succ,List.set_cons_zero,ch h,List.append_assoc,show Y.length - (k + 1) = m by omega]
 rfl
theorem tZ{α : Type}{Y : List α}{z : α} : j9 Y z Y.length = Y:=by simp [j9]
theorem sa{α : Type}{Y : List α}{z : α} : j9 Y z 0 = List.replicate Y.length z:=by simp [j9]
theorem A8(l ks : List Int)(hn : ks.length≤1000)(hks : ∀ i,i < ks.length→0≤at_ ks i∧(at_ ks i).toNat < l.length) : CallA Tryz.prog 140 [.one (.d (aF l)),.one (.d (aF ks))] [] (.one (.d (aF (ar l ks)))) []:=by
 refine enter ag Tryz.func140 rfl (by decide +kernel) rfl fun hok w0 σ0 φ0 M=>?_
 clear hok
 repeat' (first|(refine h1H ?_; (refine DP ?_; refine gX envOk 10 J J J (kA (n:=ks.length) J J J J J (by simp) (by simp) (by omega) (Nat.le_of_ble_eq_true J)) J J ?_))|(refine h1H ?_; (refine tY ?_; refine s_e envOk J J J (cr J J J J J (hks _ wB).1 (db (hks _ wB).2)) ?_))|(refine h5H ?_; refine bm (br (dl:=[10]) J) (bV ?_))|refine wG ?_|(refine h5H ?_; first|refine ao J (fun h=>?_) (fun h=>?_)|refine dJ 3 J [(0,_),(5,_),(11,_),(12,_)] (q4Q J J J J) (fun (p : Nat×List Int×List (List D))=>[(13,.one (.d (.int .i64 (p.1 : Int))))]) (fun (p : Nat×List Int×List (List D))=>[(10,.row 1 8 p.2.2)]) (fun (p : Nat×List Int×List (List D))=>p.1≤ks.length∧p.2.2 = p.2.1.map aB∧p.2.2.length = ks.length∧p.2.1 = j9 (ar l ks) 0 p.1) (fun (p : Nat×List Int×List (List D))=>ks.length - p.1) (0,List.replicate ks.length 0,List.replicate ks.length [.int .i64 0]) (q1Q J) wK ?_ (fun p ⟨hk,hr,hrl,hx⟩=>?_))|(show Exists _; refine Exists.intro ((p.1 + 1,p.2.1.set p.1 (at_ l (at_ ks p.1).toNat),p.2.2.set p.1 [.int .i64 (at_ l (at_ ks p.1).toNat)])) ⟨?_,?_,wK,(q1Q J),(q4Q J J J J)⟩))
 ·exact ⟨Nat.zero_le _,by simp [aB],by simp,by rw [sa]; simp [ar]⟩
 ·have hlt : p.1 < ks.length:=by simpa using h
  refine ⟨hlt,?_,by simp [hrl],?_⟩
  ·show p.2.2.set p.1 _ = List.map aB (p.2.1.set p.1 _)
   rw [hr,List.map_set]; rfl
  ·show p.2.1.set p.1 _ = j9 (ar l ks) 0 (p.1 + 1)
   rw [hx,← r9 (by rw [bT]; exact hlt),lG hlt]
 ·have hlt : p.1 < ks.length:=by simpa using h
  show ks.length - (p.1 + 1) < ks.length - p.1
  omega
 ·have hge : ks.length≤p.1:=by simpa using h
  have e : p.2.2.take ks.length = (ar l ks).map aB:=by
   rw [List.take_of_length_le (by omega),hr,hx,show p.1 = (ar l ks).length by rw [bT]; omega,tZ]
  show AV.one (AC.d (.sl 1 8 (p.2.2.take ks.length))) = _
  rw [e]; rfl
theorem xA(l : List Dim)(ks : List Int)(hn : ks.length≤1000)(hks : ∀ i,i < ks.length→0≤at_ ks i∧(at_ ks i).toNat < l.length) : CallA Tryz.prog 141 [.one (.d (aj l)),.one (.d (aF ks))] [] (.one (.d (aj (ar l ks)))) []:=by
 refine enter ag Tryz.func141 rfl (by decide +kernel) rfl fun hok w0 σ0 φ0 M=>?_
 clear hok
 repeat' (first|(refine h1H ?_; (refine DP ?_; refine gX envOk 10 J J J (kA (n:=ks.length) J J J J J (by simp) (by simp) (by omega) (Nat.le_of_ble_eq_true J)) J J ?_))|(refine h1H ?_; (refine tY ?_; refine s_e envOk J J J (cr J J J J J (hks _ wB).1 (db (hks _ wB).2)) ?_))|(refine h5H ?_; refine bm (br (dl:=[10]) J) (bV ?_))|refine wG ?_|(refine h5H ?_; first|refine ao J (fun h=>?_) (fun h=>?_)|refine dJ 3 J [(0,_),(5,_),(11,_),(12,_)] (q4Q J J J J) (fun (p : Nat×List Dim×List (List D))=>[(13,.one (.d (.int .i64 (p.1 : Int))))]) (fun (p : Nat×List Dim×List (List D))=>[(10,.row 3 32 p.2.2)]) (fun (p : Nat×List Dim×List (List D))=>p.1≤ks.length∧p.2.2 = p.2.1.map al∧p.2.2.length = ks.length∧p.2.1 = j9 (ar l ks) ⟨[],0,0⟩ p.1) (fun (p : Nat×List Dim×List (List D))=>ks.length - p.1) (0,List.replicate ks.length ⟨[],0,0⟩,List.replicate ks.length [.str [],.int .i64 0,.int .i64 0]) (q1Q J) wK ?_ (fun p ⟨hk,hr,hrl,hx⟩=>?_))|(show Exists _; refine Exists.intro ((p.1 + 1,p.2.1.set p.1 (at_ l (at_ ks p.1).toNat),p.2.2.set p.1 [.str (at_ l (at_ ks p.1).toNat).name,.int .i64 (at_ l (at_ ks p.1).toNat).lo,.int .i64 (at_ l (at_ ks p.1).toNat).hi])) ⟨?_,?_,wK,(q1Q J),(q4Q J J J J)⟩))
 ·exact ⟨Nat.zero_le _,by simp [al],by simp,by rw [sa]; simp [ar]⟩
 ·have hlt : p.1 < ks.length:=by simpa using h
  refine ⟨hlt,?_,by simp [hrl],?_⟩
  ·show p.2.2.set p.1 _ = List.map al (p.2.1.set p.1 _)
   rw [hr,List.map_set]; rfl
  ·show p.2.1.set p.1 _ = j9 (ar l ks) ⟨[],0,0⟩ (p.1 + 1)
   rw [hx,← r9 (by rw [bT]; exact hlt),lG hlt]
 ·have hlt : p.1 < ks.length:=by simpa using h
  show ks.length - (p.1 + 1) < ks.length - p.1
  omega
 ·have hge : ks.length≤p.1:=by simpa using h
  have e : p.2.2.take ks.length = (ar l ks).map al:=by
   rw [List.take_of_length_le (by omega),hr,hx,show p.1 = (ar l ks).length by rw [bT]; omega,tZ]
  show AV.one (AC.d (.sl 3 32 (p.2.2.take ks.length))) = _
  rw [e]; rfl
def ca : List Cell→List Cell→List Cell
 | [],b=>b
 | x::a,[]=>x::a
 | x::a,y::b=>if aJ y.at' x.at' < 0 then y::ca (x::a) b else x::ca a (y::b)
 termination_by a b=>a.length + b.length
theorem merge_perm : ∀ {a b : List Cell},(ca a b).Perm (a ++ b)
 | [],b=>by simp [ca]
 | x::a,[]=>by simp [ca]
 | x::a,y::b=>by
   rw [ca]
   split
   ·exact ((merge_perm (a:=x::a) (b:=b)).cons y).trans List.perm_middle.symm
   ·exact (merge_perm (a:=a) (b:=y::b)).cons x
 termination_by a b=>a.length + b.length
theorem r7{a b : List Cell}{z : Cell}(h : z∈ca a b) : z∈a∨z∈b:=List.mem_append.1 (merge_perm.mem_iff.1 h)
theorem j8 : ∀ {a b : List Cell},a.Pairwise ltC→b.Pairwise ltC→(∀ x∈a,∀ y∈b,bG x y)→(ca a b).Pairwise ltC
 | [],b,_,hb,_=>by rw [ca]; exact hb
 | x::a,[],ha,_,_=>by rw [ca]; exact ha
 | x::a,y::b,ha,hb,hd=>by
   rw [ca]
   have ha':=List.pairwise_cons.1 ha
   have hb':=List.pairwise_cons.1 hb
   split
   ·rename_i h
    refine List.pairwise_cons.2 ⟨fun z hz=>?_,j8 ha hb'.2 fun u hu v hv=>hd u hu v (List.mem_cons_of_mem _ hv)⟩
    rcases r7 hz with hz | hz
    ·rcases List.mem_cons.1 hz with rfl | hz
     ·exact h
     ·exact gB h (ha'.1 z hz)
    ·exact hb'.1 z hz
   ·rename_i h
    have hxy : ltC x y:=jw h (hd x List.mem_cons_self y List.mem_cons_self)
    refine List.pairwise_cons.2 ⟨fun z hz=>?_,j8 ha'.2 hb fun u hu v hv=>hd u (List.mem_cons_of_mem _ hu) v hv⟩
    rcases r7 hz with hz | hz
    ·exact ha'.1 z hz
    ·rcases List.mem_cons.1 hz with rfl | hz
     ·exact hxy
     ·exact gB hxy (hb'.1 z hz)
 termination_by a b=>a.length + b.length
theorem xD{l : List Cell}{n : Nat}(hd : l.Pairwise bG) : ca (bp (l.take n)) (bp (l.drop n)) = bp l:=by
 have hd' : (l.take n ++ l.drop n).Pairwise bG:=by rw [List.take_append_drop]; exact hd
 obtain ⟨h1,h2,h3⟩:=List.pairwise_append.1 hd'
 refine gg ?_ (j8 (dH h1) (dH h2) fun x hx y hy=>h3 x ((cw _).mem_iff.1 hx) y ((cw _).mem_iff.1 hy)) (dH hd)
 refine merge_perm.trans (((cw _).append (cw _)).trans ?_)
 rw [List.take_append_drop]
 exact (cw l).symm
theorem xF{l : List Cell}(h : l.length < 2) : bp l = l:=by
 match l,h with
 | [],_=>exact pg (by simp)
 | [x],_=>exact pg (by simp)
theorem CI{la lb : List Cell}(ha : 0 < la.length)(hb : 0 < lb.length)(h : aJ (at_ lb 0).at' (at_ la 0).at' < 0) : ca la lb = at_ lb 0::ca la (lb.drop 1):=by
 obtain ⟨x,la',rfl⟩:=List.exists_cons_of_length_pos ha
 obtain ⟨y,lb',rfl⟩:=List.exists_cons_of_length_pos hb
 rw [ca]; exact if_pos h
theorem CJ{la lb : List Cell}(ha : 0 < la.length)(hb : 0 < lb.length)(h : ¬ aJ (at_ lb 0).at' (at_ la 0).at' < 0) : ca la lb = at_ la 0::ca (la.drop 1) lb:=by
 obtain ⟨x,la',rfl⟩:=List.exists_cons_of_length_pos ha
 obtain ⟨y,lb',rfl⟩:=List.exists_cons_of_length_pos hb
 rw [ca]; exact if_neg h
theorem CK{la lb : List Cell}(h : la.length = 0∨lb.length = 0) : ca la lb = la ++ lb:=by
 rcases h with h | h
 ·rw [List.length_eq_zero_iff.1 h,ca]; rfl
 ·rw [List.length_eq_zero_iff.1 h]; cases la <;> simp [ca]
theorem tX{r : List (List D)}{lo : List Cell}{c : Cell}{n : Nat}(hr : r = lo.map af)(hn : n = r.length) : r.take n ++ [af c] = (lo ++ [c]).map af:=by
 subst hn; rw [List.take_length,hr,List.map_append]; rfl
theorem r8{ra rb r : List (List D)}{a b la lb lo : List Cell}{n : Nat}(h1 : ra = la.map af)(h2 : rb = lb.map af)(h3 : r = lo.map af)(h4 : n = r.length)(h5 : ca a b = lo ++ ca la lb)(h : la.length = 0∨lb.length = 0) :
  AV.one (cX 10 (.row 2 48 (List.take (n + ra.length) (List.take n r ++ ra) ++ rb)) (.own 10 (n + ra.length + rb.length))) = .one (.d (ak (ca a b))):=by
 show AV.one (.d (.sl 2 48 (List.take (n + ra.length + rb.length) (List.take (n + ra.length) (List.take n r ++ ra) ++ rb)))) = _
 subst h4
 rw [List.take_length,← List.length_append,List.take_length,← List.length_append,List.take_length,h5,CK h,h1,h2,h3,ak,List.map_append,List.map_append,List.append_assoc]
theorem FD(a b : List Cell)(hl : a.length + b.length≤4096) : CallA Tryz.prog 232 [.one (.d (ak a)),.one (.d (ak b))] [] (.one (.d (ak (ca a b)))) []:=by
 refine enter ag Tryz.func232 rfl (by decide +kernel) rfl fun hok w0 σ0 φ0 M=>?_
 clear hok
 repeat' (first|(refine h1H ?_; (refine tY ?_; first|refine s_e envOk J J J (cr J J J J J (Int.le_refl _) (eI hp1 wB)) ?_|refine s_e envOk J J J (cr J J J J J (Int.le_refl _) (eI hp2 wB)) ?_))|(refine h1H ?_; (refine FE ?_; refine s_e envOk J J J (lJ J J J J J (by omega) (by show 1≤_; simp at *; omega)) ?_))|(refine h5H ?_; refine bm (br (dl:=[10]) J) (bV ?_))|(refine h3H ?_; (refine h8H ?_; first|refine d_e envOk J J J (cr J J J J J (Int.le_refl _) (eI hp1 wB)) ?_|refine d_e envOk J J J (cr J J J J J (Int.le_refl _) (eI hp2 wB)) ?_))|(refine h3H ?_; (refine h2H ?_; refine d_l J J (bw J J J J J J (xG _ _) J) ?_))|refine wG ?_|(refine h1H ?_; (refine h4H ?_; refine bn J J J J (fun h=>?_) (fun h=>?_)))|(refine h5H ?_; first|refine ao J (fun h=>?_) (fun h=>?_)|refine dy 2 J (ej (s:=5) (id:=10) (k:=2) (b:=48) J J J J) [] bL (fun (bN : Bool×Bool) (p : List (List D)×List (List D)×Nat×List (List D)×List Cell×List Cell×List Cell)=>[(0,.one (.d (.sl 2 48 p.1))),(1,.one (.d (.sl 2 48 p.2.1))),(5,.one (.own 10 p.2.2.1))]) (fun (bN : Bool×Bool) (p : List (List D)×List (List D)×Nat×List (List D)×List Cell×List Cell×List Cell)=>[(10,.row 2 48 p.2.2.2.1)]) (fun (p : List (List D)×List (List D)×Nat×List (List D)×List Cell×List Cell×List Cell)=>p.1 = p.2.2.2.2.1.map af∧p.2.1 = p.2.2.2.2.2.1.map af∧p.2.2.2.1 = p.2.2.2.2.2.2.map af∧p.2.2.1 = p.2.2.2.1.length∧ca a b = p.2.2.2.2.2.2 ++ ca p.2.2.2.2.1 p.2.2.2.2.2.1∧p.2.2.1 + p.1.length + p.2.1.length = a.length + b.length) (fun (p : List (List D)×List (List D)×Nat×List (List D)×List Cell×List Cell×List Cell)=>p.1.length + p.2.1.length) (a.map af,b.map af,0,[],a,b,[]) (q3Q J J J) wK (fun b y=>by obtain ⟨b1,b2⟩:=b; cases b1 <;> cases b2 <;> first|exact Imp.refl _|exact dz qN (by kernel_rfl)) ?_ (fun p ⟨hp1,hp2,hp3,hp4,hp5,hp6⟩=>?_))|(show Exists _; first|refine Exists.intro ((p.1,p.2.1.drop 1,p.2.2.1 + 1,p.2.2.2.1.take p.2.2.1 ++ [af (at_ p.2.2.2.2.2.1 0)],p.2.2.2.2.1,p.2.2.2.2.2.1.drop 1,p.2.2.2.2.2.2 ++ [at_ p.2.2.2.2.2.1 0])) (Exists.intro (false,false) ⟨?_,?_,wK,(q3Q J J J),bL⟩)|refine Exists.intro ((p.1.drop 1,p.2.1,p.2.2.1 + 1,p.2.2.2.1.take p.2.2.1 ++ [af (at_ p.2.2.2.2.1 0)],p.2.2.2.2.1.drop 1,p.2.2.2.2.2.1,p.2.2.2.2.2.2 ++ [at_ p.2.2.2.2.1 0])) (Exists.intro (false,false) ⟨?_,?_,wK,(q3Q J J J),bL⟩)))
 ·exact ⟨rfl,rfl,rfl,rfl,(List.nil_append _).symm,by simp⟩
 all_goals (obtain ⟨ra,rb,n,r,la,lb,lo⟩:=p; dsimp only at *)
 ·have ha : 0 < la.length:=by have:=‹decide (0 < (ra.length : Int)) = true›; rw [hp1] at this; simpa using this
  have hb : 0 < lb.length:=by have:=‹decide (0 < (rb.length : Int)) = true›; rw [hp2] at this; simpa using this
  have hc:=CI ha hb (of_decide_eq_true h)
  exact ⟨hp1,by rw [hp2,List.map_drop],tX hp3 hp4,by simp [hp4],by rw [hp5,hc,List.append_assoc]; rfl,by rw [List.length_drop]; have : rb.length = lb.length:=(by rw [hp2,List.length_map]); omega⟩
 ·have hb : 0 < rb.length:=by simpa using ‹decide (0 < (rb.length : Int)) = true›
  rw [List.length_drop]; omega
 ·have ha : 0 < la.length:=by have:=‹decide (0 < (ra.length : Int)) = true›; rw [hp1] at this; simpa using this
  have hb : 0 < lb.length:=by have:=‹decide (0 < (rb.length : Int)) = true›; rw [hp2] at this; simpa using this
  have hc:=CJ ha hb (of_decide_eq_false h)
  exact ⟨by rw [hp1,List.map_drop],hp2,tX hp3 hp4,by simp [hp4],by rw [hp5,hc,List.append_assoc]; rfl,by rw [List.length_drop]; have : ra.length = la.length:=(by rw [hp1,List.length_map]); omega⟩
 ·have hb : 0 < ra.length:=by simpa using ‹decide (0 < (ra.length : Int)) = true›
  rw [List.length_drop]; omega
 ·have hb : rb.length = 0:=by simpa using h
  exact r8 hp1 hp2 hp3 hp4 hp5 (Or.inr (by rw [hp2,List.length_map] at hb; exact hb))
 ·have hb : ra.length = 0:=by simpa using h
  exact r8 hp1 hp2 hp3 hp4 hp5 (Or.inl (by rw [hp1,List.length_map] at hb; exact hb))
theorem mr(ds : List Dim)(name : List UInt8)(k : Nat)(h : bk ds name = (k : Int)) : CallA Tryz.prog 118 [.one (.d (aj ds)),.one (.d (.str name))] [] (.one (.d (.int .i64 (k : Int)))) []:=by
 have h1:=ml ds name
 unfold bk at h
 rw [h] at h1
 exact h1
theorem AF{l : List Cell}{h : Int}(hh : h.toNat = l.length / 2) : List.take h.toNat (List.map af l) = (l.take (l.length / 2)).map af:=by rw [hh,List.map_take]
theorem AG{l : List Cell}{h : Int}(hh : h.toNat = l.length / 2) : List.drop h.toNat (List.map af l) = (l.drop (l.length / 2)).map af:=by rw [hh,List.map_drop]
theorem ph{l : List Cell} : (bp l).length = l.length:=(cw l).length_eq
theorem AH{k b n : Nat}{xs ys : List (List D)}(he : xs.take n = ys) : AV.one (cX 0 (.row k b xs) (.own 0 n)) = .one (.d (.sl k b ys)):=by subst he; rfl
theorem E9(n : Nat)(ih : ∀ (ys : List (List D)) (l : List Cell),ys = l.map af→l.length < n→l.Pairwise bG→l.length≤4096→CallA Tryz.prog 184 [.one (.d (.sl 2 48 ys))] [] (.one (.d (ak (bp l)))) [])
  (l : List Cell) (hn : l.length = n) (hd : l.Pairwise bG) (hl : l.length≤4096) : CallA Tryz.prog 184 [.one (.d (.sl 2 48 (l.map af)))] [] (.one (.d (ak (bp l)))) []:=by
 have hd1 : (l.take (l.length / 2)).Pairwise bG:=hd.sublist (List.take_sublist _ _)
 have hd2 : (l.drop (l.length / 2)).Pairwise bG:=hd.sublist (List.drop_sublist _ _)
 have e2 : ((((l.map af).length : Nat) : Int) / 2).toNat = l.length / 2:=by rw [List.length_map]; omega
 have hm1 : (l.take (l.length / 2)).length≤4096:=by rw [List.length_take]; omega
 have hm2 : (l.drop (l.length / 2)).length≤4096:=by rw [List.length_drop]; omega
 have hl3 : (bp (l.take (l.length / 2))).length + (bp (l.drop (l.length / 2))).length≤4096:=by rw [ph,ph,List.length_take,List.length_drop]; omega
 refine enter ag Tryz.func184 rfl (by decide +kernel) rfl fun hok w0 σ0 φ0 M=>?_
 clear hok
 rcases Nat.lt_or_ge l.length 2 with h2 | h2
 ·have hb : decide (((List.map af l).length : Int) < 2) = true:=by simp; omega
  repeat' (first|(refine h5H ?_; refine bm (br (dl:=[0]) J) (bV ?_))|refine wG ?_)
  refine AH ?_
  rw [xF h2,List.take_zero,List.nil_append,Nat.zero_add,List.take_length]
 ·have hb : decide (((List.map af l).length : Int) < 2) = false:=by simp; omega
  have hl1 : (l.take (l.length / 2)).length < n:=by rw [List.length_take]; omega
  have hl2 : (l.drop (l.length / 2)).length < n:=by rw [List.length_drop]; omega
  repeat' (first|(refine h1H ?_; (refine xO ?_; refine s_e envOk J J J (jC J J J J (by omega) (by omega) (ic (by omega) (by omega))) ?_))|(refine h3H ?_; (refine F7 ?_; refine d_e envOk J J J (q8 J J J J J (by simp; omega) (by simp; omega)) ?_))|(refine h3H ?_; (refine F8 ?_; refine d_e envOk J J J (lJ J J J J J (by simp; omega) (by simp; omega)) ?_))|(refine h3H ?_; (refine h2H ?_; first|refine di 16 J J J J J J J J (ih _ (l.take (l.length / 2)) (AF e2) hl1 hd1 hm1) J J ?_|refine di 16 J J J J J J J J (ih _ (l.drop (l.length / 2)) (AG e2) hl2 hd2 hm2) J J ?_|refine di 16 J J J J J J J J (FD _ _ hl3) J J ?_))|refine wG ?_)
  rw [xD hd]; rfl
theorem Cz : ∀ (n : Nat) (ys : List (List D)) (l : List Cell),ys = l.map af→l.length < n→l.Pairwise bG→l.length≤4096→CallA Tryz.prog 184 [.one (.d (.sl 2 48 ys))] [] (.one (.d (ak (bp l)))) []
 | 0,_,_,_,h,_,_=>absurd h (Nat.not_lt_zero _)
 | n + 1,ys,l,hy,h,hd,hl=>by
   subst hy
   exact E9 l.length (fun ys' l' hy' h' hd' hl'=>Cz n ys' l' hy' (by omega) hd' hl') l rfl hd hl
theorem FG(l : List Cell)(hd : l.Pairwise bG)(hl : l.length≤4096) : CallA Tryz.prog 184 [.one (.d (ak l))] [] (.one (.d (ak (bp l)))) []:=Cz (l.length + 1) _ l rfl (Nat.lt_succ_self _) hd hl
def fw(c : Cell) : Prop:=c.at'.length≤1048576∧c.vals.length≤1048576
theorem Bh{ds : List Dim}{ats : List Attr}{l : List Cell}(h1 : ds.length≤1048576)(h2 : ats.length≤1048576)(h3 : ∀ c∈l,fw c)(h4 : l.length≤4096) : nh ⟨ds,ats,bp l⟩:=by
 have hn : (bp l).length≤4096:=by rw [ph]; exact h4
 exact ⟨h1,h2,by show (bp l).length≤_; omega,fun k hk=>h3 _ ((cw l).mem_iff.1 (aX hk))⟩
theorem FF(ds : List Dim)(ats : List Attr)(l : List Cell)(hd : l.Pairwise bG)(h1 : ds.length≤1048576)(h2 : ats.length≤1048576)(h3 : ∀ c∈l,fw c) : CallA Tryz.prog 101 [.one (.d (aj ds)),.one (.d (ai ats)),.one (.d (ak l))] [] (er (dx ds ats l)) []:=by
 refine enter ag Tryz.func101 rfl (by decide +kernel) rfl fun hok w0 σ0 φ0 M=>?_
 clear hok
 by_cases h4 : 4096 < (l.length : Int)
 ·have hb : decide (4096 < ((l.map af).length : Int)) = true:=by simpa using h4
  simp only [dx,if_pos h4,er]
  repeat' (first|refine wG ?_)
  all_goals rfl
 ·have hb : decide (4096 < ((l.map af).length : Int)) = false:=by simpa using h4
  have hl : l.length≤4096:=by omega
  have hsm:=Bh h1 h2 h3 hl
  simp only [dx,if_neg h4,er]
  repeat' (first|(refine h1H ?_; (refine h0H ?_; first|refine bh 16 J J J J J J J J (FG _ hd hl) J J J ?_|refine bh 16 J J J J J J J J (c22 ⟨ds,ats,bp l⟩ hsm) J J J ?_))|refine wG ?_)
  all_goals rfl
def Ei(n : Int) : List D:=[.int .u32 n]
def cO(l : List Int) : D:=.sl 1 4 (l.map Ei)
def cu(z : Int) : List Int:=if z = 0 then [] else if z < 1000000000 then [z] else [z % 1000000000,z / 1000000000]
theorem D1(l : List Int)(i : Nat)(h : ∀ x∈l,0≤x∧x < 1000000000) : CallA Tryz.prog 342 [.one (.d (cO l)),.one (.d (.int .i64 i))] [] (.one (.d (.int .u64 (at_ l i)))) []:=by
 refine enter ag Tryz.func342 rfl (by decide +kernel) rfl fun hok w0 σ0 φ0 M=>?_
 clear hok
 have hb : i < l.length→0≤at_ l i∧at_ l i < 1000000000:=fun hi=>h _ (aX hi)
 repeat' (first|refine wG ?_|(refine h5H ?_; refine ao J (fun h=>?_) (fun h=>?_)))
 ·have hi : i < l.length:=by simpa using h
  have:=hb hi
  show AV.one (.d (.int .u64 (IntKind.u64.wrap (at_ l i)))) = _
  rw [jR (by omega) (by omega)]
 ·have hi : l.length≤i:=by simpa using h
  simp [at_,List.getD_eq_getElem?_getD,hi]
theorem ur(z : Int)(h0 : 0≤z)(h1 : z < 1000000000000000000) : CallA Tryz.prog 268 [.one (.d (.int .u64 z))] [] (.one (.d (cO (cu z)))) []:=by
 refine enter ag Tryz.func268 rfl (by decide +kernel) rfl fun hok w0 σ0 φ0 M=>?_
 clear hok
 repeat' (first|(refine h1H ?_; (refine Ej ?_; refine s_e envOk J J J (qx J J J J (by omega) (by omega)) ?_))|(refine h1H ?_; (refine xO ?_; refine s_e envOk J J J (jC J J J J (by omega) (by omega) (jR (by omega) (by omega))) ?_))|(refine h5H ?_; first|refine bm (br (dl:=[3]) J) (bV ?_)|refine bm (br (dl:=[1]) J) (bV ?_)|refine bm (jM (s:=2) (k:=1) (b:=4) J) (bV ?_))|refine wG ?_|(refine h5H ?_; first|refine ao J (fun h=>?_) (fun h=>?_)|refine sy 2 J 3 ?_))
 all_goals (try simp only [decide_eq_true_eq,decide_eq_false_iff_not] at *)
 ·omega
 ·have e : cu z = [z % 1000000000,z / 1000000000 % 1000000000]:=by
   have : z / 1000000000 % 1000000000 = z / 1000000000:=by omega
   rw [this]; unfold cu; rw [if_neg (by omega),if_neg (by omega)]
  rw [e]; rfl
 ·have e : cu z = [z % 1000000000]:=by
   have : z % 1000000000 = z:=by omega
   rw [this]; unfold cu; rw [if_neg (by omega),if_pos (by omega)]
  rw [e]; rfl
 ·have e : cu z = []:=by unfold cu; rw [if_pos (by omega)]
  rw [e]; rfl
theorem Bv{z : Int}(h0 : 0≤z)(h1 : z < 1000000000000000000) : ∀ x∈cu z,0≤x∧x < 1000000000:=by
 intro x hx
 unfold cu at hx
 split at hx
 ·simp at hx
 ·split at hx
  ·simp at hx; omega
  ·simp at hx; omega
theorem CV{z : Int}(h0 : 0≤z)(h1 : z < 1000000000000000000) : at_ (cu z) 0 + 1000000000 * at_ (cu z) 1 = z∧0≤at_ (cu z) 0∧at_ (cu z) 0 < 1000000000∧0≤at_ (cu z) 1∧at_ (cu z) 1 < 1000000000:=by
 unfold cu
 split
 ·rename_i h; subst h; exact ⟨rfl,by decide,by decide,by decide,by decide⟩
 ·split
  ·show z + 1000000000 * 0 = z∧0≤z∧z < 1000000000∧(0 : Int)≤0∧(0 : Int) < 1000000000
   omega
  ·show z % 1000000000 + 1000000000 * (z / 1000000000) = z∧0≤z % 1000000000∧z % 1000000000 < 1000000000∧0≤z / 1000000000∧z / 1000000000 < 1000000000
   omega
theorem uq{z : Int} : (cu z).length≤2:=by
 unfold cu
 split
 ·simp
 ·split <;> simp
theorem Bw{z : Int} : 0 < (cu z).length↔z≠0:=by
 unfold cu
 split
 ·simp_all
 ·split <;> simp_all
theorem D0(z : Int)(h0 : 0≤z)(h1 : z < 1000000000000000000) : CallA Tryz.prog 343 [.one (.d (cO (cu z)))] [] (.one (.d (.int .u64 z))) []:=by
 refine enter ag Tryz.func343 rfl (by decide +kernel) rfl fun hok w0 σ0 φ0 M=>?_
 clear hok
 have hm:=Bv h0 h1
 obtain ⟨he,ha,hb,hc,hd⟩:=CV h0 h1
 repeat' (first|(refine h1H ?_; (refine h0H ?_; first|refine ab J J J J J J J J (D1 _ 0 hm) J ?_|refine ab J J J J J J J J (D1 _ 1 hm) J ?_))|refine wG ?_)
 all_goals (rw [he])
theorem Bx{n : Int}(h0 : -1099511627776≤n)(h : n < 0) : IntKind.u64.wrap (0 - IntKind.u64.wrap n) = -n:=by
 simp only [IntKind.wrap,IntKind.signed,IntKind.bits,Bool.false_and,Bool.false_eq_true,if_false]
 omega
theorem FZ(n : Int)(h0 : -1099511627776≤n)(h1 : n≤1099511627776) : CallA Tryz.prog 267 [.one (.d (.int .i64 n))] [] (.one (.d (cO (cu (max n (-n)))))) []:=by
 refine enter ag Tryz.func267 rfl (by decide +kernel) rfl fun hok w0 σ0 φ0 M=>?_
 clear hok
 repeat' (first|refine wG ?_|(refine h5H ?_; refine ao J (fun h=>?_) (fun h=>?_)))
 ·have hn : n < 0:=by simpa using h
  rw [Bx h0 hn]
  refine bh 16 rfl rfl rfl rfl rfl rfl rfl rfl (ur (-n) (by omega) (by omega)) rfl rfl (rav':=.one (.d (cO (cu (-n))))) rfl ?_
  repeat' (first|refine wG ?_)
  rw [show max n (-n) = -n by omega]
 ·have hn : 0≤n:=by simpa using h
  refine bh 16 rfl rfl rfl rfl rfl rfl rfl rfl (ur n (by omega) (by omega)) rfl rfl (rav':=.one (.d (cO (cu n)))) rfl ?_
  repeat' (first|refine wG ?_)
  rw [show max n (-n) = n by omega]
theorem AO{x y : Int}(hx : 0≤x)(hx1 : x < 1000000000000000000)(hy : 0 < y) : 0≤x / y∧x / y < 1000000000000000000:=by
 refine ⟨Int.ediv_nonneg hx (by omega),?_⟩
 have h1:=Int.ediv_le_self y hx
 omega
theorem sV{x y : Int}(hx : 0≤x)(hx1 : x < 1000000000000000000)(hy : 0 < y) : 0≤x % y∧x % y < 1000000000000000000:=by
 refine ⟨Int.emod_nonneg x (by omega),?_⟩
 have:=fI hx hy
 omega
theorem Ig(x y : Int)(hx : 0≤x)(hx1 : x < 1000000000000000000)(hy : 0 < y)(hy1 : y < 1000000000000000000) : CallA Tryz.prog 287 [.one (.d (cO (cu x))),.one (.d (cO (cu y)))] [] (.tup [(false,[.d (cO (cu (x / y)))]),(false,[.d (cO (cu (x % y)))])]) []:=by
 refine enter ag Tryz.func287 rfl (by decide +kernel) rfl fun hok w0 σ0 φ0 M=>?_
 clear hok
 have hl1:=uq (z:=x); have hl2:=uq (z:=y)
 have hd:=AO hx hx1 hy; have hm:=sV hx hx1 hy
 repeat' (first|(refine h1H ?_; (refine Ej ?_; refine s_e envOk J J J (qx J J J J (by omega) (by omega)) ?_))|(refine h1H ?_; (refine xO ?_; refine s_e envOk J J J (jC J J J J (by omega) (by omega) (jR (by omega) (by omega))) ?_))|(refine h1H ?_; (refine h0H ?_; first|refine ab J J J J J J J J (D0 x (by omega) (by omega)) J ?_|refine ab J J J J J J J J (D0 y (by omega) (by omega)) J ?_|refine bh 16 J J J J J J J J (ur (x / y) (by omega) (by omega)) J J J ?_|refine bh 16 J J J J J J J J (ur (x % y) (by omega) (by omega)) J J J ?_))|refine wG ?_|(refine h1H ?_; (refine h4H ?_; refine bn J J J J (fun h=>?_) (fun h=>?_)))|(refine h5H ?_; refine ao J (fun h=>?_) (fun h=>?_)))
 ·rfl
 ·exfalso; simp at h; omega
 ·exfalso; simp at h; omega
theorem sW{z : Int} : (cu z).length = 0↔z = 0:=by
 have:=Bw (z:=z)
 omega
theorem Gq(x y : Int)(hx : 0≤x)(hx1 : x < 1000000000000000000)(hy : 0≤y)(hy1 : y < 1000000000000000000) : CallA Tryz.prog 266 [.one (.d (cO (cu x))),.one (.d (cO (cu y)))] [] (.one (.d (cO (cu (Int.gcd x y))))) []:=by
 refine enter ag Tryz.func266 rfl (by decide +kernel) rfl fun hok w0 σ0 φ0 M=>?_
 clear hok
 repeat' (first|(refine h1H ?_; (refine h0H ?_; refine bh 16 J J J J J J J J (Ig p.1 p.2 wB wB wB wB) J J J ?_))|refine wG ?_|(refine h5H ?_; first|refine ao J (fun h=>?_) (fun h=>?_)|refine bc 1 J [] bL (fun (p : Int×Int)=>[(0,.one (.d (cO (cu p.1)))),(1,.one (.d (cO (cu p.2))))]) (fun (p : Int×Int)=>(0≤p.1∧p.1 < 1000000000000000000)∧(0≤p.2∧p.2 < 1000000000000000000)∧((cu p.2).length = 0↔p.2 = 0)∧Int.gcd p.1 p.2 = Int.gcd x y) (fun (p : Int×Int)=>p.2.toNat) (x,y) (q2Q J J) ?_ (fun p ⟨h1,h2,h3,h4⟩=>?_))|(show Exists _; refine Exists.intro ((p.2,p.1 % p.2)) ⟨?_,?_,wK,(q2Q J J),bL⟩))
 ·exact ⟨⟨hx,hx1⟩,⟨hy,hy1⟩,sW,rfl⟩
 ·have hp : p.2≠0:=by
   intro e
   have:=h3.2 e
   simp [this] at h
  refine ⟨h2,sV h1.1 h1.2 (by omega),sW,?_⟩
  show Int.gcd p.2 (p.1 % p.2) = _
  rw [← h4]
  obtain ⟨a,ha⟩:=Int.eq_ofNat_of_zero_le h1.1
  obtain ⟨b,hb⟩:=Int.eq_ofNat_of_zero_le h2.1
  rw [ha,hb]
  show Nat.gcd b (a % b) = Nat.gcd a b
  rw [Nat.gcd_comm,← Nat.gcd_rec,Nat.gcd_comm]
 ·have hp : p.2≠0:=by
   intro e
   have:=h3.2 e
   simp [this] at h
  have h5:=Int.emod_lt_of_pos p.1 (show 0 < p.2 by omega)
  have h6:=Int.emod_nonneg p.1 hp
  show (p.1 % p.2).toNat < p.2.toNat
  omega
 ·have hp : p.2 = 0:=h3.1 (by simpa using h)
  rw [hp] at h4
  have : ((Int.gcd p.1 0 : Nat) : Int) = p.1:=by
   rw [Int.gcd_zero_right]; omega
  rw [← h4,this]
def rq(l : List Int) : Int:=if (l.length : Int) < 1 then -1 else if 1 < (l.length : Int) then 1 else if at_ l 0 < 1 then -1 else if 1 < at_ l 0 then 1 else 0
theorem Gn(l : List Int) : CallA Tryz.prog 265 [.one (.d (cO l)),.one (.d (cO [1]))] [] (.one (.d (.int .i64 (rq l)))) []:=by
 refine enter ag Tryz.func265 rfl (by decide +kernel) rfl fun hok w0 σ0 φ0 M=>?_
 have h1:=hok.1.sl.1; clear hok; simp only [List.length_map] at h1
 repeat' (first|refine wG ?_|(refine h5H ?_; first|refine ao J (fun h=>?_) (fun h=>?_)|refine sy 6 J 3 ?_))
 all_goals (try (((simp_all [rq,av,List.drop_eq_nil_of_le]) <;> exact wL); done))
 all_goals (try simp only [a0A,a1A,Bm,a5A,pE,pF] at *)
 all_goals (have hl : l.length = 1:=by omega)
 all_goals (obtain ⟨a,rfl⟩:=List.length_eq_one_iff.1 hl)
 all_goals (simp [rq,at_] at *; try omega)
theorem uJ{g : Int}(h0 : 0≤g) : (rq (cu g) == 0) = (g == 1):=by
 unfold cu
 split
 ·rename_i h; subst h; rfl
 ·split
  ·rename_i h1 h2
   simp [rq,at_]
   rw [Bool.eq_iff_iff]; simp
   split <;> (try split) <;> omega
  ·rename_i h1 h2
   have : (g == 1) = false:=by simp; omega
   rw [this]; simp [rq]
theorem zO{n d : Int}(hd : 1≤d) : Int.gcd (max n (-n)) (max d (-d)) = Nat.gcd n.natAbs d.toNat:=by
 unfold Int.gcd
 congr 1 <;> omega
theorem CX : CallA Tryz.prog 268 [.one (.d (.int .u64 1))] [] (.one (.d (cO [1]))) []:=ur 1 (by omega) (by omega)
theorem F5(k' n d : Int)(s : List UInt8) : CallA Tryz.prog 227 [.agg [.d (.int .i64 k'),.d (.int .i64 n),.d (.int .i64 d),.d (.str s)]] [] (.one (.d (.int .i64 (if gd k' n d s then 0 else 2)))) []:=by
 refine enter ag Tryz.func227 rfl (by decide +kernel) rfl fun hok w0 σ0 φ0 M=>?_
 have hl:=(hok.1 (.d (.str s)) (by simp)); replace hl:=OkD.str hl; clear hok
 repeat' (first|(refine h3H ?_; (refine h2H ?_; first|refine d_l J J (bw J J J J J J (Gn _) J) ?_|refine di 16 J J J J J J J J (FZ _ wB wB) J J ?_|refine di 16 J J J J J J J J (Gq _ _ wB wB wB wB) J J ?_|refine di 16 J J J J J J J J (CX) J J ?_))|refine wG ?_|(refine h1H ?_; (refine h4H ?_; refine bn J J J J (fun h=>?_) (fun h=>?_)))|(refine h5H ?_; first|refine ao J (fun h=>?_) (fun h=>?_)|refine bc 12 J [(1,_)] (q1Q J) (fun (p : Nat×Bool)=>[(4,.one (.d (.int .i64 (p.1 : Int)))),(3,.one (.d (.bool p.2)))]) (fun (p : Nat×Bool)=>p.1≤s.length∧p.2 = ((n == 0 && (d == 0 && decide ((s.length : Int)≤16))) && (s.take p.1).all du)) (fun (p : Nat×Bool)=>s.length - p.1) (0,_) (q2Q J J) ?_ (fun p ⟨hk,hp⟩=>?_))|(refine h3H ?_; (refine ni ?_; refine gC J J (fun h=>?_) (fun h=>?_)))|(show Exists _; refine Exists.intro ((p.1 + 1,_)) ⟨?_,?_,wK,(q2Q J J),(q1Q J)⟩))
 all_goals (try (((simp_all [gd,nf,ch,du,av,List.drop_eq_nil_of_le]) <;> exact wL); done))
 ·rename_i a1 a2 a3 a4 a5 a6 a7 a8
  rw [zO (by simpa using a4),uJ (by omega)] at h
  simp_all [gd]
 ·rename_i a1 a2 a3 a4 a5 a6 a7 a8
  rw [zO (by simpa using a4),uJ (by omega)] at h
  simp_all [gd]
 ·refine ⟨Nat.zero_le _,?_⟩
  change decide ((s.length : Int)≤16) = _
  simp_all
 ·rename_i a1 a2 a3 a4 a5 a6 a7 a8
  have hk' : p.1 < s.length:=by simpa using a7
  refine ⟨by show p.1 + 1≤_; omega,?_⟩
  change decide (((at_ s p.1).toNat : Int)≤126) = (n == 0 && (d == 0 && decide ((s.length : Int)≤16)) && (List.take (p.1 + 1) s).all du)
  rw [ch hk',List.all_append,← Bool.and_assoc,← hp,a8]
  have h2 : (32 : Int)≤((at_ s p.1).toNat : Int):=by simpa using h
  have h' : 32≤(at_ s p.1).toNat:=by omega
  simp [du,h']
  try omega
theorem Fl(k n d : Int)(s : List UInt8)(t : Int) : CallA Tryz.prog 199 [.agg [.d (.int .i64 k),.d (.int .i64 n),.d (.int .i64 d),.d (.str s)],.one (.d (.int .i64 t))] [] (.one (.d (.bool (mg k n d s t)))) []:=by
 refine enter ag Tryz.func199 rfl (by decide +kernel) rfl fun hok w0 σ0 φ0 M=>?_
 clear hok
 repeat' (first|(refine h1H ?_; (refine h0H ?_; refine ab J J J J J J J J (F5 _ _ _ _) J ?_))|refine wG ?_|(refine h1H ?_; (refine h4H ?_; refine bn J J J J (fun h=>?_) (fun h=>?_)))|(refine h5H ?_; refine ao J (fun h=>?_) (fun h=>?_)))
 all_goals (try (((simp_all [mg,av,List.drop_eq_nil_of_le]) <;> exact wL); done))
 all_goals (by_cases hk : k = 3 <;> simp_all [mg,gd])
theorem Fj(ds : List Dim)(ats : List Attr)(at' : List Int)(vs : List Val) : CallA Tryz.prog 131 [.one (.d (aj ds)),.one (.d (ai ats)),.agg [.d (aF at'),.d (bM vs)]] [] (.one (.d (.int .i64 (cU ds ats at' vs)))) []:=by
 refine enter ag Tryz.func131 rfl (by decide +kernel) rfl fun hok w0 σ0 φ0 M=>?_
 have h1:=hok.1.sl.1; have h2:=hok.2.1.sl.1; have h3:=OkD.sl (hok.2.2.1 (.d (aF at')) (by simp)); have h4:=OkD.sl (hok.2.2.1 (.d (bM vs)) (by simp)); clear hok
 replace h3:=h3.1; replace h4:=h4.1; simp only [List.length_map] at h1 h2 h3 h4
 repeat' (first|(refine h1H ?_; (refine h0H ?_; refine ab J J J J J J J J (Fk _ _) J ?_))|(refine h3H ?_; (refine h2H ?_; refine d_l J J (bw J J J J J J (Fl _ _ _ _ _) J) ?_))|refine wG ?_|(refine h1H ?_; (refine h4H ?_; refine bn J J J J (fun h=>?_) (fun h=>?_)))|(refine h5H ?_; first|refine ao J (fun h=>?_) (fun h=>?_)|refine bc 6 J [(1,_),(5,_)] (q2Q J J) (fun (k : Nat)=>[(7,.one (.d (.int .i64 k)))]) (fun (k : Nat)=>k≤ats.length∧at'.length = ds.length∧vs.length = ats.length∧ofF ds at' = true∧cU ds ats at' vs = gK (ats.drop k) (vs.drop k)) (fun (k : Nat)=>ats.length - k) 0 (q1Q J) ?_ (fun k ⟨hk,hq,hq2,hof,hs⟩=>?_))|(show Exists _; refine Exists.intro (k + 1) ⟨?_,?_,wK,(q1Q J),(q2Q J J)⟩))
 all_goals (try (((simp_all [cU,gK,av,List.drop_eq_nil_of_le]) <;> exact wL); done))
theorem c89(ds : List Dim)(ats : List Attr)(cs : List Cell) : CallA Tryz.prog 89 [.agg [.d (aj ds),.d (ai ats),.d (ak cs)]] [] (.one (.d (.int .i64 (bz ds ats cs)))) []:=by
 refine enter ag Tryz.func89 rfl (by decide +kernel) rfl fun hok w0 σ0 φ0 M=>?_
 have h1:=(OkD.sl (hok.1 (.d (ak cs)) (by simp))).1; clear hok; simp only [List.length_map] at h1
 repeat' (first|(refine h1H ?_; (refine h0H ?_; refine ab J J J J J J J J (Gm _ _) J ?_))|(refine h3H ?_; (refine h2H ?_; first|refine d_l J J (bw J J J J J J (Fj _ _ _ _) J) ?_|refine d_l J J (bw J J J J J J (xG _ _) J) ?_))|refine wG ?_|(refine h5H ?_; first|refine ao J (fun h=>?_) (fun h=>?_)|refine bc 7 J [(1,_)] (q1Q J) (fun (k : Nat)=>[(4,.one (.d (.int .i64 k)))]) (fun (k : Nat)=>k≤cs.length∧cG ds ats = 0∧(cs.length : Int)≤4096∧bz ds ats cs = cF ds ats (pv cs k) (cs.drop k)) (fun (k : Nat)=>cs.length - k) 0 (q1Q J) ?_ (fun k ⟨hk,hsc,hq,hs⟩=>?_))|(show Exists _; refine Exists.intro (k + 1) ⟨?_,?_,wK,(q1Q J),(q1Q J)⟩))
 all_goals (try (((simp_all [bz,cF,nW,tI,nX,tJ,av,List.drop_eq_nil_of_le]) <;> exact wL); done))
 ·rename_i hlt
  have hk' : k < cs.length:=by simpa using hlt
  have hb : cU ds ats (at_ cs k).at' (at_ cs k).vals≠0:=by simpa using h
  rw [hs,av hk',oF hb]; simp
 ·rename_i hlt hc
  have hk' : k < cs.length:=by simpa using hlt
  have hk0 : k = 0:=by simpa using h
  have hb : cU ds ats (at_ cs k).at' (at_ cs k).vals = 0:=by simpa using hc
  refine ⟨by omega,hsc,hq,?_⟩
  rw [hs,av hk',nX]
  subst hk0
  simp [cF,hb,nW]
mutual
def D7 : Scalar→Int→Int
 | .mk _ _ _ a,most=>wM a 1 most
def wM : List Scalar→Int→Int→Int
 | [],n,_=>n
 | x::r,n,most=>if n≤most then wM r (n + D7 x (most - n)) most else n
end
def Cf(op : Int) : Int:=if 4≤op∧op≤8 then 1 else if 9≤op∧op≤21 then 2 else if op = 22 then 3 else 0
def Cg(v : Val) : Bool:=v.kind == 0 && (v.num == 0 && (v.den == 0 && v.str == []))
def ER(s : Scalar) : Bool :=
 if s.op = 1 then gd s.val.kind s.val.num s.val.den s.val.str && (!(s.val.kind == 0) && (s.name == [] && (s.args.length : Int) == 0))
 else if s.op = 2∨s.op = 3 then Cg s.val && (s.args.length : Int) == 0
 else decide (0 < Cf s.op) && (Cg s.val && (s.name == [] && (s.args.length : Int) == Cf s.op))
mutual
def EA : Scalar→Bool
 | .mk o n v a=>ER (.mk o n v a) && AB a
def AB : List Scalar→Bool
 | []=>true
 | x::r=>EA x && AB r
end
end Go.Proofs.YtpejdgkaapnekaaGreat
namespace Go.Proofs.YtpejdgkaapnekaaGreat
open Go Go.Abs
mutual
def E6 : Scalar→List Scalar
 | .mk o n v a=>Ap a ++ [.mk o n v a]
def Ap : List Scalar→List Scalar
 | []=>[]
 | x::r=>E6 x ++ Ap r
end
end Go.Proofs.YtpejdgkaapnekaaGreat
namespace Go.Proofs.YtpejdgkaapnekaaGreat
open Go Go.Abs
attribute [local irreducible] aa OkC aq aC ax aS
set_option maxRecDepth 10000
end Go.Proofs.YtpejdgkaapnekaaGreat
namespace Go.Proofs.YtpejdgkaapnekaaGreat
open Go Go.Abs
attribute [local irreducible] aa OkC aq aC ax aS OkR xt pY wh DJ
set_option maxRecDepth 10000
end Go.Proofs.YtpejdgkaapnekaaGreat
namespace Go.Proofs.YtpejdgkaapnekaaGreat
open Go Go.Abs
attribute [local irreducible] aa OkC aq aC ax aS
set_option maxRecDepth 10000
end Go.Proofs.YtpejdgkaapnekaaGreat
namespace Go.Proofs.YtpejdgkaapnekaaGreat
open Go Go.Abs
attribute [local irreducible] aa OkC aq aC ax aS
set_option maxRecDepth 10000
section
variable {a : Arr} {names : List (List UInt8)}
theorem Tran.rng(h : Tran a names) : ∀ i,i < (ixs a.dims names).length→0≤at_ (ixs a.dims names) i∧(at_ (ixs a.dims names) i).toNat < a.dims.length:=fun i hi=>by
 rw [ig] at hi
 obtain ⟨k,h1,h2,_⟩:=h.ix hi
 rw [h1]; exact ⟨by omega,by simpa using h2⟩
end
theorem wC{ds : List Dim}{n : List UInt8}(h : decide (aD (fun a : Dim=>a.name == n) ds 0 < 0) = false) : 0≤aD (fun a : Dim=>a.name == n) ds 0∧(aD (fun a : Dim=>a.name == n) ds 0).toNat < ds.length:=by
 have h0:=of_decide_eq_false h
 obtain ⟨k,h1,h2,_⟩:=iO h0
 rw [h1]; exact ⟨by omega,by simpa using h2⟩
end Go.Proofs.YtpejdgkaapnekaaGreat
