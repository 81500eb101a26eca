import Derived.Test.YtpejdgkaapnekaaGreatGP38
import Derived.Test.YtpejdgkaapnekaaGreatGP18
import Derived.Test.YtpejdgkaapnekaaGreatGP21
import Derived.Test.YtpejdgkaapnekaaGreatGP17
set_option linter.unusedVariables false
set_option linter.unusedSimpArgs false
set_option linter.unnecessarySimpa false
set_option maxHeartbeats 1000000
namespace Go.Proofs.YtpejdgkaapnekaaGreat
open Go Go.Abs
attribute [local irreducible] ac OkC ao ax ap aJ
set_option maxRecDepth 10000
set_option maxHeartbeats 4000000 in
theorem c27(a : Arr)(s : Scalar) : CallA Tryz.prog 27 [fX a,cY s] [] (jV (oP a s)) []:=by
 unfold fX oP
 refine enter ae Tryz.func27 rfl (by decide +kernel) rfl fun hok w0 σ0 φ0 M=>?_
 clear hok
 by_cases ht : (bT a.dims a.attrs a.cells s).2 = 0
 ·have hb1 : ((bT a.dims a.attrs a.cells s).2 != 0) = false:=by simp [ht]
  obtain ⟨hck,hp,hsz,hn⟩:=AH ht
  rw [if_neg (by simpa using ht)]
  by_cases h1 : (bT a.dims a.attrs a.cells s).1 = 1
  ·have hb2 : ((bT a.dims a.attrs a.cells s).1 != 1) = false:=by simp [h1]
   rw [if_neg (by simpa using h1)]
   have hA:=okA hck
   have hcl : ∀ i,i < a.cells.length→(at_ a.cells i).at'.length = a.dims.length∧(at_ a.cells i).vals.length = a.attrs.length:=fun i hi =>
    let h:=cellF_ok.1 (hA.cel _ (bM hi)); ⟨h.1,h.2.1⟩
   have hbv : ∀ i,i < a.cells.length→bV (dW a.dims a.attrs (at_ a.cells i).at' (at_ a.cells i).vals s):=fun i hi=>JX (by rw [eV,Bool.and_eq_true] at hp; exact hp.1) (H1 (hA.cel _ (bM hi)))
   have hcn : a.cells.length≤4096:=hA.few
   have hd1 : a.dims.length≤1048576:=by have:=(l8 (dQ hA.sch).1).2.1; omega
   have ha1 : a.attrs.length≤1048576:=by have:=(dQ hA.sch).2.2.1; omega
   have hdf : (i8 a s a.cells).Pairwise b9:=(cU hA.srt).filter _
   have hff : (i8 a s a.cells).length≤4096:=Nat.le_trans (List.length_filter_le _ _) hcn
   have hsm : ∀ c∈i8 a s a.cells,py c:=fun c hc=>by
    have h:=cellF_ok.1 (hA.cel c ((List.mem_filter.1 hc).1))
    exact ⟨by rw [h.1]; exact hd1,by rw [h.2.1]; exact ha1⟩
   have er : fx a.dims a.attrs (i8 a s a.cells) = (some ⟨a.dims,a.attrs,bE (i8 a s a.cells)⟩,0):=by unfold fx; rw [if_neg (by omega)]
   rw [er]
   repeat' (first|(refine h1H ?_; (refine h0H ?_; first|refine cS 40 [10] J J J J J J J J J (Hc a.dims a.attrs (i8 a s a.cells) _ hdf hd1 ha1 hsm hff (by rw [List.take_of_length_le (by omega),hq3,List.take_of_length_le wB])) J J J ?_|refine aa J J J J J J J J (c21 _ _ _ _) J ?_))|(refine h3H ?_; (refine h2H ?_; refine d_l J J (aA J J J J J J (N5 _ _ _ _ _ _ (hcl _ wB).1 (hcl _ wB).2 hp hn) J) ?_))|refine wG ?_|(refine h1H ?_; (refine h5H ?_; refine aG J J J J (fun h=>?_) (fun h=>?_)))|(refine h4H ?_; first|refine ag J (fun h=>?_) (fun h=>?_)|refine fy 8 J (ee (s:=8) (id:=10) (k:=2) (b:=48) J J J J) [(2,_),(3,_),(4,_)] (q3Q J J J) (fun (bN : Bool×Bool) (q : Nat×Nat×List (List D))=>[(8,.one (.own (nmA bN) q.2.1)),(9,.one (.d (.int .i64 (q.1 : Int))))]) (fun (bN : Bool×Bool) (q : Nat×Nat×List (List D))=>[((nmA bN),.row 2 48 q.2.2),(0,.box [.d (aH a.dims),.d (aF a.attrs),.d (bg a.cells)]),(1,.box [.d (.int .i64 s.op),.d (.str s.name),.d (.int .i64 s.val.kind),.d (.int .i64 s.val.num),.d (.int .i64 s.val.den),.d (.str s.val.str),.d (cu s.args)]),(2,.box [.d .nil,.d .nil,.d .nil])]) (fun (q : Nat×Nat×List (List D))=>q.1≤a.cells.length∧q.2.1 = q.2.2.length∧q.2.1≤q.1∧q.2.2 = (i8 a s (a.cells.take q.1)).map av) (fun (q : Nat×Nat×List (List D))=>a.cells.length - q.1) (0,0,[]) (q2Q J J) wK (fun b y=>by obtain ⟨b1,b2⟩:=b; cases b1 <;> cases b2 <;> first|exact Imp.refl _|exact fz qN (by kernel_rfl)) ?_ (fun q ⟨hq1,hq2,hq4,hq3⟩=>?_))|(show Exists _; first|refine Exists.intro ((q.1 + 1,q.2.1 + 1,q.2.2.take q.2.1 ++ [av (at_ a.cells q.1)])) (Exists.intro (false,false) ⟨?_,?_,wK,(q2Q J J),(q3Q J J J)⟩)|refine Exists.intro ((q.1 + 1,q.2)) (Exists.intro (false,false) ⟨?_,?_,wK,(q2Q J J),(q3Q J J J)⟩)))
   ·exact ⟨Nat.zero_le _,rfl,Nat.le_refl _,by simp [i8]⟩
   ·have hlt : q.1 < a.cells.length:=by simpa using ‹decide ((q.1 : Int) < ((a.cells.map av).length : Int)) = true›
    have hw : okV (dW a.dims a.attrs (at_ a.cells q.1).at' (at_ a.cells q.1).vals s) = true:=by
     rw [uQ (hbv _ hlt)]
     rename_i u1 u2
     have w1 : ((dW a.dims a.attrs (at_ a.cells q.1).at' (at_ a.cells q.1).vals s).kind == 1) = true:=u2
     have w2 : ((dW a.dims a.attrs (at_ a.cells q.1).at' (at_ a.cells q.1).vals s).num == 1) = true:=h
     rw [w1,w2]; rfl
    refine ⟨hlt,?_,Nat.succ_le_succ hq4,?_⟩
    ·show q.2.1 + 1 = (q.2.2.take q.2.1 ++ [_]).length
     rw [List.length_append,List.length_take]; simp [hq2]
    ·show q.2.2.take q.2.1 ++ [_] = _
     rw [List.take_of_length_le (by omega),hq3]
     show _ = List.map av (List.filter _ (List.take (q.1 + 1) a.cells))
     rw [mc hlt,if_pos hw,List.map_append]; rfl
   ·have hlt : q.1 < a.cells.length:=by simpa using ‹decide ((q.1 : Int) < ((a.cells.map av).length : Int)) = true›
    show a.cells.length - (q.1 + 1) < a.cells.length - q.1
    omega
   ·have hlt : q.1 < a.cells.length:=by simpa using ‹decide ((q.1 : Int) < ((a.cells.map av).length : Int)) = true›
    have hw : okV (dW a.dims a.attrs (at_ a.cells q.1).at' (at_ a.cells q.1).vals s) = false:=by
     rw [uQ (hbv _ hlt)]
     have w2 : ((dW a.dims a.attrs (at_ a.cells q.1).at' (at_ a.cells q.1).vals s).num == 1) = false:=h
     rw [w2,Bool.and_false]
    refine ⟨hlt,hq2,Nat.le_succ_of_le hq4,?_⟩
    show q.2.2 = List.map av (List.filter _ (List.take (q.1 + 1) a.cells))
    rw [mc hlt,if_neg (by simp [hw]),List.append_nil,hq3]
   ·have hlt : q.1 < a.cells.length:=by simpa using ‹decide ((q.1 : Int) < ((a.cells.map av).length : Int)) = true›
    show a.cells.length - (q.1 + 1) < a.cells.length - q.1
    omega
   ·have hlt : q.1 < a.cells.length:=by simpa using ‹decide ((q.1 : Int) < ((a.cells.map av).length : Int)) = true›
    have hw : okV (dW a.dims a.attrs (at_ a.cells q.1).at' (at_ a.cells q.1).vals s) = false:=by
     rw [uQ (hbv _ hlt)]
     have w2 : ((dW a.dims a.attrs (at_ a.cells q.1).at' (at_ a.cells q.1).vals s).kind == 1) = false:=h
     rw [w2,Bool.false_and]
    refine ⟨hlt,hq2,Nat.le_succ_of_le hq4,?_⟩
    show q.2.2 = List.map av (List.filter _ (List.take (q.1 + 1) a.cells))
    rw [mc hlt,if_neg (by simp [hw]),List.append_nil,hq3]
   ·have hlt : q.1 < a.cells.length:=by simpa using ‹decide ((q.1 : Int) < ((a.cells.map av).length : Int)) = true›
    show a.cells.length - (q.1 + 1) < a.cells.length - q.1
    omega
   all_goals first | rfl | skip
  ·have hb2 : ((bT a.dims a.attrs a.cells s).1 != 1) = true:=by simp [h1]
   rw [if_pos h1]
   repeat' (first|(refine h1H ?_; (refine h0H ?_; refine aa J J J J J J J J (c21 _ _ _ _) J ?_))|refine wG ?_)
   all_goals first | rfl | skip
 ·have hb1 : ((bT a.dims a.attrs a.cells s).2 != 0) = true:=by simp [ht]
  rw [if_pos ht]
  repeat' (first|(refine h1H ?_; (refine h0H ?_; refine aa J J J J J J J J (c21 _ _ _ _) J ?_))|refine wG ?_)
  all_goals first | rfl | skip
end Go.Proofs.YtpejdgkaapnekaaGreat
namespace Go.Proofs.YtpejdgkaapnekaaGreat
open Go Go.Abs
attribute [local irreducible] ac OkC ao ax ap aJ
set_option maxRecDepth 10000
def gz(ds : List Dim)(lo hi : List Int)(k : Nat) : List Dim:=(List.range ds.length).map fun i=>if i < k then md (at_ ds i) (at_ lo i,at_ hi i) else at_ ds i
section
variable {ds : List Dim} {lo hi : List Int} {k : Nat}
theorem kw : (gz ds lo hi k).length = ds.length:=by simp [gz]
theorem GD{n i : Nat}(h : i < n) : at_ (List.range n) i = i:=by simp [at_,List.getD_eq_getElem?_getD,h]
theorem nP{i : Nat}(h : i < ds.length) : at_ (gz ds lo hi k) i = if i < k then md (at_ ds i) (at_ lo i,at_ hi i) else at_ ds i:=by
 unfold gz; rw [eQ (by simpa using h),GD h]
theorem GE : gz ds lo hi 0 = ds:=gY kw fun i hi=>by rw [kw] at hi; rw [nP hi,if_neg (by omega)]
theorem tW(hl : lo.length = ds.length)(hh : hi.length = ds.length){i : Nat}(h : i < ds.length) : at_ (bC ds lo hi) i = md (at_ ds i) (at_ lo i,at_ hi i):=by
 unfold bC
 rw [pM h (by simp; omega),List.zip,pM (by omega) (by omega)]
theorem jr(hl : lo.length = ds.length)(hh : hi.length = ds.length) : (bC ds lo hi).length = ds.length:=by simp [bC]; omega
theorem IG(hl : lo.length = ds.length)(hh : hi.length = ds.length) : gz ds lo hi ds.length = bC ds lo hi:=gY (by rw [kw,jr hl hh]) fun i hi=>by
 rw [kw] at hi
 rw [nP hi,if_pos hi,tW hl hh hi]
theorem GF(h : k < ds.length)(x : List D) : (((gz ds lo hi k).map bv).set k x).set k (bv (md (at_ ds k) (at_ lo k,at_ hi k))) = (gz ds lo hi (k + 1)).map bv:=by
 rw [List.set_set,← List.map_set]
 congr 1
 refine gY (by simp [kw]) fun i hi=>?_
 have hi' : i < ds.length:=by simpa [kw] using hi
 rw [tE (by rw [kw]; exact hi'),nP hi',nP hi']
 by_cases e : i = k
 ·subst e; simp
 ·by_cases h1 : i < k
  ·rw [if_neg e,if_pos h1,if_pos (by omega)]
  ·rw [if_neg e,if_neg h1,if_neg (by omega)]
end
theorem va{a : Arr}{lo hi : List Int}{k : Nat}(hc : gX a = 0)(hl : lo.length = a.dims.length)(hh : hi.length = a.dims.length)(hk : k < a.dims.length)(hb : dX (min (at_ a.dims k).hi (at_ hi k)) < max (at_ a.dims k).lo (at_ lo k)) : eC a lo hi = (none,3):=by
 unfold eC
 rw [if_neg (by simpa [gX] using hc),if_neg (by omega),if_pos]
 simp only [Bool.not_eq_true',List.all_eq_false]
 have hkc : k < (bC a.dims lo hi).length:=by rw [jr hl hh]; exact hk
 refine ⟨_,bM hkc,?_⟩
 rw [tW hl hh hk]
 show ¬ (!decide (dX (min (at_ a.dims k).hi (at_ hi k)) < max (at_ a.dims k).lo (at_ lo k))) = true
 simp only [hb,decide_true,Bool.not_true]
 simp
theorem zg{a : Arr}{lo hi : List Int}(hc : gX a = 0)(hl : lo.length = a.dims.length)(hh : hi.length = a.dims.length)(ho : ∀ i,i < a.dims.length→okD (md (at_ a.dims i) (at_ lo i,at_ hi i)) = true) :
  eC a lo hi = (some ⟨bC a.dims lo hi,a.attrs,bE (a.cells.filter fun c=>bo (bC a.dims lo hi) c.at')⟩,0):=by
 have hA:=okA hc
 unfold eC
 rw [if_neg (by simpa [gX] using hc),if_neg (by omega),if_neg]
 ·unfold fx
  rw [if_neg]
  have:=List.length_filter_le (fun c : Cell=>bo (bC a.dims lo hi) c.at') a.cells
  have:=hA.few
  omega
 ·simp only [Bool.not_eq_true',Bool.not_eq_false,List.all_eq_true]
  intro d hd
  obtain ⟨i,hi',rfl⟩:=gZ hd
  rw [jr hl hh] at hi'
  rw [tW hl hh hi']
  exact ho i hi'
theorem kJ{p : Cell→Bool}{l : List Cell}{k : Nat}(h : k < l.length) : (l.take (k + 1)).filter p = (l.take k).filter p ++ if p (at_ l k) then [at_ l k] else []:=by
 rw [eO h,List.filter_append]
 congr 1
 by_cases hp : p (at_ l k) = true
 ·simp [hp]
 ·simp [hp]
theorem c23(a : Arr)(lo hi : List Int) : CallA Tryz.prog 23 [fX a,.one (.d (aL lo)),.one (.d (aL hi))] [] (jV (eC a lo hi)) []:=by
 unfold fX
 refine enter ae Tryz.func23 rfl (by decide +kernel) rfl fun hok w0 σ0 φ0 M=>?_
 have h1:=hok.2.1.sl; have h2:=hok.2.2.1.sl; clear hok; simp only [List.length_map] at h1 h2; replace h1:=h1.1; replace h2:=h2.1
 by_cases hc : gX a = 0
 ·have hv : (!iS [a]) = false:=by simp [iS,hc]
  have hA:=okA hc
  have hne : 0 < a.dims.length:=by have:=hA.dims.1; omega
  by_cases hl : lo.length = a.dims.length
  ·have hb1 : (((lo.map bD).length : Int) != ((a.dims.map bv).length : Int)) = false:=by simp [hl]
   by_cases hh : hi.length = a.dims.length
   ·have hb2 : (((hi.map bD).length : Int) != ((a.dims.map bv).length : Int)) = false:=by simp [hh]
    repeat' (first|(refine h1H ?_; (refine h0H ?_; first|refine kq [2] J J J J J J J J J (c96 [a]) J ?_|refine jU 10 [] (rav':=.one (.own 10 a.dims.length)) (Mu a.dims hne) J J J J J J trivial kD J J J J ?_))|refine wG ?_|(refine h4H ?_; first|refine ag J (fun h=>?_) (fun h=>?_)|refine b0 7 J [(1,_),(2,_),(3,_),(6,_),(8,_),(39,_)] (q6Q J J J J J J) (fun (p : Nat×List (List D))=>[(40,.one (.d (.int .i64 (p.1 : Int))))]) (fun (p : Nat×List (List D))=>[(10,.row 3 32 p.2),(0,.box [.d (aH a.dims),.d (aF a.attrs),.d (bg a.cells)]),(1,.box [.d .nil,.d .nil,.d .nil])]) (fun (p : Nat×List (List D))=>p.1≤a.dims.length∧p.2.length = a.dims.length∧p.2 = (gz a.dims lo hi p.1).map bv∧(∀ i,i < p.1→okD (md (at_ a.dims i) (at_ lo i,at_ hi i)) = true)) (fun (p : Nat×List (List D))=>a.dims.length - p.1) (0,a.dims.map bv) (q1Q J) wK ?_ (fun p ⟨hk,hln,hr,ho⟩=>?_))|(show Exists _; refine Exists.intro ((p.1 + 1,(p.2.set p.1 [.str (at_ (gz a.dims lo hi p.1) p.1).name,.int .i64 (max (at_ (gz a.dims lo hi p.1) p.1).lo (at_ lo p.1)),.int .i64 (at_ (gz a.dims lo hi p.1) p.1).hi]).set p.1 [.str (at_ (gz a.dims lo hi p.1) p.1).name,.int .i64 (max (at_ (gz a.dims lo hi p.1) p.1).lo (at_ lo p.1)),.int .i64 (min (at_ (gz a.dims lo hi p.1) p.1).hi (at_ hi p.1))])) ⟨?_,?_,wK,(q1Q J),(q6Q J J J J J J)⟩))
    ·exact ⟨Nat.zero_le _,by simp,by show _ = List.map bv (gz a.dims lo hi 0); rw [GE],fun i hi=>absurd hi (Nat.not_lt_zero _)⟩
    ·have hlt : p.1 < a.dims.length:=by simpa using ‹decide ((p.1 : Int) < (a.dims.length : Int)) = true›
     have em : at_ (gz a.dims lo hi p.1) p.1 = at_ a.dims p.1:=by rw [nP hlt,if_neg (Nat.lt_irrefl _)]
     have hb : dX (min (at_ a.dims p.1).hi (at_ hi p.1)) < max (at_ a.dims p.1).lo (at_ lo p.1):=by
      simp only [Int.toNat_natCast,em,decide_eq_true_eq] at h
      exact h
     rw [va hc hl hh hlt hb]
     rfl
    ·have hlt : p.1 < a.dims.length:=by simpa using ‹decide ((p.1 : Int) < (a.dims.length : Int)) = true›
     have em : at_ (gz a.dims lo hi p.1) p.1 = at_ a.dims p.1:=by rw [nP hlt,if_neg (Nat.lt_irrefl _)]
     have hb : okD (md (at_ a.dims p.1) (at_ lo p.1,at_ hi p.1)) = true:=by
      simp only [Int.toNat_natCast,em,decide_eq_false_iff_not] at h
      show (!decide (dX (min (at_ a.dims p.1).hi (at_ hi p.1)) < max (at_ a.dims p.1).lo (at_ lo p.1))) = true
      have h' : ¬ dX (min (at_ a.dims p.1).hi (at_ hi p.1)) < max (at_ a.dims p.1).lo (at_ lo p.1):=h
      simp only [h',decide_false,Bool.not_false]
     refine ⟨hlt,by simp [hln],?_,fun i hi'=>?_⟩
     ·show ((p.2.set p.1 _).set p.1 _) = _
      rw [em,hr]
      exact GF hlt _
     ·rcases Nat.lt_or_ge i p.1 with h3 | h3
      ·exact ho i h3
      ·have : i = p.1:=by have : i < p.1 + 1:=hi'; omega
       rw [this]; exact hb
    ·have hlt : p.1 < a.dims.length:=by simpa using ‹decide ((p.1 : Int) < (a.dims.length : Int)) = true›
     show a.dims.length - (p.1 + 1) < a.dims.length - p.1
     omega
    have hpn : p.1 = a.dims.length:=by
     have : a.dims.length≤p.1:=by simpa using h
     omega
    have hX : p.2.take a.dims.length = (bC a.dims lo hi).map bv:=by rw [List.take_of_length_le (by omega),hr,hpn,IG hl hh]
    have hcl : ∀ i,i < a.cells.length→(at_ a.cells i).at'.length = (bC a.dims lo hi).length:=fun i hi'=>by
     rw [jr hl hh]; exact (cellF_ok.1 (hA.cel _ (bM hi'))).1
    have hcn : a.cells.length≤4096:=hA.few
    rw [zg hc hl hh (hpn ▸ ho)]
    have hdf : (a.cells.filter fun c=>bo (bC a.dims lo hi) c.at').Pairwise b9:=(cU hA.srt).filter _
    have hff : (a.cells.filter fun c=>bo (bC a.dims lo hi) c.at').length≤4096:=Nat.le_trans (List.length_filter_le _ _) hcn
    repeat' (first|(refine h1H ?_; (refine h0H ?_; first|refine kq [10] J J J J J J J J J (Mv (bC a.dims lo hi) _ _ hX (hcl _ (by first|omega|(simp only [decide_eq_true_eq,decide_eq_false_iff_not,List.length_map] at *; omega)))) J ?_|refine cS 16 [10,12] J J J J J J J J J (I0 (bC a.dims lo hi) a.attrs (a.cells.filter fun c=>bo (bC a.dims lo hi) c.at') _ _ hdf hff hX (by rw [List.take_of_length_le (by omega),hq3,List.take_of_length_le wB])) J J J ?_))|refine wG ?_|(refine h4H ?_; first|refine ag J (fun h=>?_) (fun h=>?_)|refine fy 15 J (ee (s:=10) (id:=12) (k:=2) (b:=48) J J J J) [(3,_),(6,_),(8,_),(86,_),(87,_)] (q5Q J J J J J) (fun (bN : Bool×Bool) (q : Nat×Nat×List (List D))=>[(10,.one (.own (nmB bN) q.2.1)),(88,.one (.d (.int .i64 (q.1 : Int))))]) (fun (bN : Bool×Bool) (q : Nat×Nat×List (List D))=>[(10,.row 3 32 p.2),((nmB bN),.row 2 48 q.2.2),(0,.box [.d (aH a.dims),.d (aF a.attrs),.d (bg a.cells)]),(1,.box [.d .nil,.d .nil,.d .nil])]) (fun (q : Nat×Nat×List (List D))=>q.1≤a.cells.length∧q.2.1 = q.2.2.length∧q.2.1≤q.1∧q.2.2 = ((a.cells.take q.1).filter fun c=>bo (bC a.dims lo hi) c.at').map av) (fun (q : Nat×Nat×List (List D))=>a.cells.length - q.1) (0,0,[]) (q2Q J J) wK (fun b y=>by obtain ⟨b1,b2⟩:=b; cases b1 <;> cases b2 <;> first|exact Imp.refl _|exact fz qN (by kernel_rfl)) ?_ (fun q ⟨hq1,hq2,hq4,hq3⟩=>?_))|(show Exists _; first|refine Exists.intro ((q.1 + 1,q.2.1 + 1,q.2.2.take q.2.1 ++ [av (at_ a.cells q.1)])) (Exists.intro (false,false) ⟨?_,?_,wK,(q2Q J J),(q5Q J J J J J)⟩)|refine Exists.intro ((q.1 + 1,q.2)) (Exists.intro (false,false) ⟨?_,?_,wK,(q2Q J J),(q5Q J J J J J)⟩)))
    ·exact ⟨Nat.zero_le _,rfl,Nat.le_refl _,by simp⟩
    ·have hlt : q.1 < a.cells.length:=by simpa using ‹decide ((q.1 : Int) < ((a.cells.map av).length : Int)) = true›
     have hw : bo (bC a.dims lo hi) (at_ a.cells q.1).at' = true:=h
     refine ⟨hlt,?_,Nat.succ_le_succ hq4,?_⟩
     ·show q.2.1 + 1 = (q.2.2.take q.2.1 ++ [_]).length
      rw [List.length_append,List.length_take]; simp [hq2]
     ·show q.2.2.take q.2.1 ++ [_] = _
      rw [List.take_of_length_le (by omega),hq3]
      show _ = List.map av (List.filter _ (List.take (q.1 + 1) a.cells))
      rw [kJ hlt,if_pos hw,List.map_append]; rfl
    ·have hlt : q.1 < a.cells.length:=by simpa using ‹decide ((q.1 : Int) < ((a.cells.map av).length : Int)) = true›
     show a.cells.length - (q.1 + 1) < a.cells.length - q.1
     omega
    ·have hlt : q.1 < a.cells.length:=by simpa using ‹decide ((q.1 : Int) < ((a.cells.map av).length : Int)) = true›
     have hw : bo (bC a.dims lo hi) (at_ a.cells q.1).at' = false:=h
     refine ⟨hlt,hq2,Nat.le_succ_of_le hq4,?_⟩
     show q.2.2 = List.map av (List.filter _ (List.take (q.1 + 1) a.cells))
     rw [kJ hlt,if_neg (by simp [hw]),List.append_nil,hq3]
    ·have hlt : q.1 < a.cells.length:=by simpa using ‹decide ((q.1 : Int) < ((a.cells.map av).length : Int)) = true›
     show a.cells.length - (q.1 + 1) < a.cells.length - q.1
     omega
    ·rfl
   ·have hb2 : (((hi.map bD).length : Int) != ((a.dims.map bv).length : Int)) = true:=by simp; omega
    have e : eC a lo hi = (none,13):=by
     unfold eC
     rw [if_neg (by simpa [gX] using hc),if_pos (by omega)]
    rw [e]
    repeat' (first|(refine h1H ?_; (refine h0H ?_; refine kq [2] J J J J J J J J J (c96 [a]) J ?_))|refine wG ?_)
    all_goals rfl
  ·have hb1 : (((lo.map bD).length : Int) != ((a.dims.map bv).length : Int)) = true:=by simp; omega
   have e : eC a lo hi = (none,13):=by
    unfold eC
    rw [if_neg (by simpa [gX] using hc),if_pos (by omega)]
   rw [e]
   repeat' (first|(refine h1H ?_; (refine h0H ?_; refine kq [2] J J J J J J J J J (c96 [a]) J ?_))|refine wG ?_)
   all_goals rfl
 ·have hv : (!iS [a]) = true:=by simp [iS,hc]
  have e : eC a lo hi = (none,2):=by
   unfold eC
   rw [if_pos (by simpa [gX] using hc)]
  rw [e]
  repeat' (first|(refine h1H ?_; (refine h0H ?_; refine kq [2] J J J J J J J J J (c96 [a]) J ?_))|refine wG ?_)
  all_goals rfl
end Go.Proofs.YtpejdgkaapnekaaGreat
namespace Go.Proofs.YtpejdgkaapnekaaGreat
open Go Go.Abs
attribute [local irreducible] ac OkC ao ax ap aJ
set_option maxRecDepth 10000
theorem LS(ds : List Dim)(at' : List Int)(hl : at'.length = ds.length) : CallA Tryz.prog 100 [.one (.d (aH ds)),.one (.d (aL at'))] [] (.one (.d (.bool (bo ds at')))) []:=by
 have h:=IW ds at'
 have e : ofF ds at' = bo ds at':=by simp [ofF,hl]
 rw [e] at h
 exact h
theorem IF{ds : List Dim}{lo hi : List Int}{n : Nat}{r : List (List D)}(h : r = ((bC ds lo hi).take n).map bv)(hl : lo.length = ds.length)(hh : hi.length = ds.length)(hn : ds.length≤n) : r.take n = (bC ds lo hi).map bv:=by
 have:=jr hl hh
 rw [h,List.take_of_length_le (by simp; omega),List.take_of_length_le (by omega)]
set_option maxHeartbeats 4000000 in
theorem c24(a : Arr)(lo hi : List Int) : CallA Tryz.prog 24 [fX a,.one (.d (aL lo)),.one (.d (aL hi))] [] (jV (eC a lo hi)) []:=by
 unfold fX
 refine enter ae Tryz.func24 rfl (by decide +kernel) rfl fun hok w0 σ0 φ0 M=>?_
 have h1:=hok.2.1.sl; have h2:=hok.2.2.1.sl; clear hok; simp only [List.length_map] at h1 h2; replace h1:=h1.1; replace h2:=h2.1
 by_cases hc : cE a.dims a.attrs a.cells = 0
 rotate_left
 ·have hb : (cE a.dims a.attrs a.cells != 0) = true:=by simp [hc]
  rw [show eC a lo hi = (none,2) by unfold eC; rw [if_pos hc]]
  repeat' (first|(refine h1H ?_; (refine h0H ?_; refine aa J J J J J J J J (c89 _ _ _) J ?_))|refine wG ?_)
  all_goals first | rfl | skip
 have hb : (cE a.dims a.attrs a.cells != 0) = false:=by simp [hc]
 have hA:=okA hc
 by_cases hl : lo.length = a.dims.length
 rotate_left
 ·have hb1 : (((lo.map bD).length : Int) != ((a.dims.map bv).length : Int)) = true:=by simp; omega
  rw [show eC a lo hi = (none,13) by unfold eC; rw [if_neg (by simp [hc]),if_pos (by omega)]]
  repeat' (first|(refine h1H ?_; (refine h0H ?_; refine aa J J J J J J J J (c89 _ _ _) J ?_))|refine wG ?_)
  all_goals first | rfl | skip
 have hb1 : (((lo.map bD).length : Int) != ((a.dims.map bv).length : Int)) = false:=by simp [hl]
 by_cases hh : hi.length = a.dims.length
 rotate_left
 ·have hb2 : (((hi.map bD).length : Int) != ((a.dims.map bv).length : Int)) = true:=by simp; omega
  rw [show eC a lo hi = (none,13) by unfold eC; rw [if_neg (by simp [hc]),if_pos (by omega)]]
  repeat' (first|(refine h1H ?_; (refine h0H ?_; refine aa J J J J J J J J (c89 _ _ _) J ?_))|refine wG ?_)
  all_goals first | rfl | skip
 have hb2 : (((hi.map bD).length : Int) != ((a.dims.map bv).length : Int)) = false:=by simp [hh]
 have hdl:=(l8 (dQ hA.sch).1).2.1
 repeat' (first|(refine h1H ?_; (refine h0H ?_; refine aa J J J J J J J J (c89 _ _ _) J ?_))|refine wG ?_|(refine h1H ?_; (refine h5H ?_; refine aG J J J J (fun h=>?_) (fun h=>?_)))|(refine h4H ?_; first|refine ag J (fun h=>?_) (fun h=>?_)|refine fy 7 J (ee (s:=8) (id:=10) (k:=3) (b:=32) J J J J) [(1,_),(2,_),(3,_),(6,_)] (q4Q J J J J) (fun (bN : Bool×Bool) (p : Nat×List (List D))=>[(8,.one (.own (nmA bN) p.1)),(9,.one (.d (.int .i64 (p.1 : Int))))]) (fun (bN : Bool×Bool) (p : Nat×List (List D))=>[((nmA bN),.row 3 32 p.2),(0,.box [.d (aH a.dims),.d (aF a.attrs),.d (bg a.cells)]),(1,.box [.d .nil,.d .nil,.d .nil])]) (fun (p : Nat×List (List D))=>p.1≤a.dims.length∧p.2 = ((bC a.dims lo hi).take p.1).map bv∧(∀ i,i < p.1→okD (md (at_ a.dims i) (at_ lo i,at_ hi i)) = true)) (fun (p : Nat×List (List D))=>a.dims.length - p.1) (0,[]) (q2Q J J) wK (fun b y=>by obtain ⟨b1,b2⟩:=b; cases b1 <;> cases b2 <;> first|exact Imp.refl _|exact fz qN (by kernel_rfl)) ?_ (fun p ⟨hk,hr,ho⟩=>?_))|(show Exists _; refine Exists.intro ((p.1 + 1,p.2.take p.1 ++ [bv (md (at_ a.dims p.1) (at_ lo p.1,at_ hi p.1))])) (Exists.intro (false,false) ⟨?_,?_,wK,(q2Q J J),(q4Q J J J J)⟩)))
 ·exact ⟨Nat.zero_le _,rfl,fun i hi=>absurd hi (Nat.not_lt_zero _)⟩
 ·have hlt : p.1 < a.dims.length:=by simpa using ‹decide ((p.1 : Int) < ((a.dims.map bv).length : Int)) = true›
  have w : (1073741824 : Int) < max (at_ a.dims p.1).lo (at_ lo p.1):=by simpa using h
  rw [va hc hl hh hlt (by show min _ _ < _; omega)]
  rfl
 ·have hlt : p.1 < a.dims.length:=by simpa using ‹decide ((p.1 : Int) < ((a.dims.map bv).length : Int)) = true›
  rename_i w2
  have w : ¬ (1073741824 : Int) < max (at_ a.dims p.1).lo (at_ lo p.1):=of_decide_eq_false h
  have w3 : ¬ min (at_ a.dims p.1).hi (at_ hi p.1) < max (at_ a.dims p.1).lo (at_ lo p.1):=of_decide_eq_false w2
  refine ⟨hlt,?_,fun i hi'=>?_⟩
  ·show p.2.take p.1 ++ [_] = _
   have hlc : p.1 < (bC a.dims lo hi).length:=by rw [jr hl hh]; exact hlt
   rw [hr,← tW hl hh hlt]
   exact nZ bv _ hlc
  ·rcases Nat.lt_or_ge i p.1 with h3 | h3
   ·exact ho i h3
   ·have : i = p.1:=by have : i < p.1 + 1:=hi'; omega
    rw [this]
    show (!decide (min (min (at_ a.dims p.1).hi (at_ hi p.1)) 1073741824 < max (at_ a.dims p.1).lo (at_ lo p.1))) = true
    rw [decide_eq_false (by omega)]; rfl
 ·have hlt : p.1 < a.dims.length:=by simpa using ‹decide ((p.1 : Int) < ((a.dims.map bv).length : Int)) = true›
  show a.dims.length - (p.1 + 1) < a.dims.length - p.1
  omega
 ·have hlt : p.1 < a.dims.length:=by simpa using ‹decide ((p.1 : Int) < ((a.dims.map bv).length : Int)) = true›
  have w : min (at_ a.dims p.1).hi (at_ hi p.1) < max (at_ a.dims p.1).lo (at_ lo p.1):=of_decide_eq_true h
  rw [va hc hl hh hlt (by show min _ _ < _; omega)]
  rfl
 have hge : a.dims.length≤p.1:=by simpa using h
 have hpn : p.1 = a.dims.length:=by omega
 have hcl : ∀ i,i < a.cells.length→(at_ a.cells i).at'.length = (bC a.dims lo hi).length:=fun i hi'=>by
  rw [jr hl hh]; exact (cellF_ok.1 (hA.cel _ (bM hi'))).1
 have hcn : a.cells.length≤4096:=hA.few
 rw [zg hc hl hh (hpn ▸ ho)]
 have hdf : (a.cells.filter fun c=>bo (bC a.dims lo hi) c.at').Pairwise b9:=(cU hA.srt).filter _
 have hff : (a.cells.filter fun c=>bo (bC a.dims lo hi) c.at').length≤4096:=Nat.le_trans (List.length_filter_le _ _) hcn
 have hd1 : (bC a.dims lo hi).length≤1048576:=by rw [jr hl hh]; omega
 have ha1 : a.attrs.length≤1048576:=by have:=(dQ hA.sch).2.2.1; omega
 have hsm : ∀ c∈a.cells.filter (fun c=>bo (bC a.dims lo hi) c.at'),py c:=fun c hc'=>by
  have h:=cellF_ok.1 (hA.cel c ((List.mem_filter.1 hc').1))
  exact ⟨by rw [h.1]; omega,by rw [h.2.1]; exact ha1⟩
 refine bu (bR (dl:=[10]) rfl) ?_
 refine bu (st':=⟨[(3,.one (.ref 0 0)),(6,.one (.ref 1 0)),(8,.one (.d (aH (bC a.dims lo hi)))),(11,.one (.d .nil)),(12,.one (.d (.int .i64 0)))],[(0,.box [.d (aH a.dims),.d (aF a.attrs),.d (bg a.cells)]),(1,.box [.d .nil,.d .nil,.d .nil])]⟩) (qA (ai rfl (ai rfl (ai (congrArg (fun x=>some (AV.one (AC.d (D.sl 3 32 x)))) (IF hr hl hh hge)) (q2Q rfl rfl)))) (q2Q rfl rfl)) ?_
 clear hr ho h
 repeat' (first|(refine h1H ?_; (refine h0H ?_; first|refine cS 40 [10] J J J J J J J J J (Hc (bC a.dims lo hi) a.attrs (a.cells.filter fun c=>bo (bC a.dims lo hi) c.at') _ hdf hd1 ha1 hsm hff (by rw [List.take_of_length_le (by omega),hq3,List.take_of_length_le wB])) J J J ?_|refine aa J J J J J J J J (LS _ _ (hcl _ wB)) J ?_))|refine wG ?_|(refine h4H ?_; first|refine ag J (fun h=>?_) (fun h=>?_)|refine fy 17 J (ee (s:=11) (id:=10) (k:=2) (b:=48) J J J J) [(3,_),(6,_),(8,_)] (q3Q J J J) (fun (bN : Bool×Bool) (q : Nat×Nat×List (List D))=>[(11,.one (.own (nmA bN) q.2.1)),(12,.one (.d (.int .i64 (q.1 : Int))))]) (fun (bN : Bool×Bool) (q : Nat×Nat×List (List D))=>[((nmA bN),.row 2 48 q.2.2),(0,.box [.d (aH a.dims),.d (aF a.attrs),.d (bg a.cells)]),(1,.box [.d .nil,.d .nil,.d .nil])]) (fun (q : Nat×Nat×List (List D))=>q.1≤a.cells.length∧q.2.1 = q.2.2.length∧q.2.1≤q.1∧q.2.2 = ((a.cells.take q.1).filter fun c=>bo (bC a.dims lo hi) c.at').map av) (fun (q : Nat×Nat×List (List D))=>a.cells.length - q.1) (0,0,[]) (q2Q J J) wK (fun b y=>by obtain ⟨b1,b2⟩:=b; cases b1 <;> cases b2 <;> first|exact Imp.refl _|exact fz qN (by kernel_rfl)) ?_ (fun q ⟨hq1,hq2,hq4,hq3⟩=>?_))|(show Exists _; first|refine Exists.intro ((q.1 + 1,q.2.1 + 1,q.2.2.take q.2.1 ++ [av (at_ a.cells q.1)])) (Exists.intro (false,false) ⟨?_,?_,wK,(q2Q J J),(q3Q J J J)⟩)|refine Exists.intro ((q.1 + 1,q.2)) (Exists.intro (false,false) ⟨?_,?_,wK,(q2Q J J),(q3Q J J J)⟩)))
 ·exact ⟨Nat.zero_le _,rfl,Nat.le_refl _,by simp⟩
 ·have hlt : q.1 < a.cells.length:=by simpa using ‹decide ((q.1 : Int) < ((a.cells.map av).length : Int)) = true›
  have hw : bo (bC a.dims lo hi) (at_ a.cells q.1).at' = true:=h
  refine ⟨hlt,?_,Nat.succ_le_succ hq4,?_⟩
  ·show q.2.1 + 1 = (q.2.2.take q.2.1 ++ [_]).length
   rw [List.length_append,List.length_take]; simp [hq2]
  ·show q.2.2.take q.2.1 ++ [_] = _
   rw [List.take_of_length_le (by omega),hq3]
   show _ = List.map av (List.filter _ (List.take (q.1 + 1) a.cells))
   rw [kJ hlt,if_pos hw,List.map_append]; rfl
 ·have hlt : q.1 < a.cells.length:=by simpa using ‹decide ((q.1 : Int) < ((a.cells.map av).length : Int)) = true›
  show a.cells.length - (q.1 + 1) < a.cells.length - q.1
  omega
 ·have hlt : q.1 < a.cells.length:=by simpa using ‹decide ((q.1 : Int) < ((a.cells.map av).length : Int)) = true›
  have hw : bo (bC a.dims lo hi) (at_ a.cells q.1).at' = false:=h
  refine ⟨hlt,hq2,Nat.le_succ_of_le hq4,?_⟩
  show q.2.2 = List.map av (List.filter _ (List.take (q.1 + 1) a.cells))
  rw [kJ hlt,if_neg (by simp [hw]),List.append_nil,hq3]
 ·have hlt : q.1 < a.cells.length:=by simpa using ‹decide ((q.1 : Int) < ((a.cells.map av).length : Int)) = true›
  show a.cells.length - (q.1 + 1) < a.cells.length - q.1
  omega
 all_goals first | rfl | skip
theorem BU{P : Program}{f : FuncId}{args args' : List AV}{sto : Sto}{rav : AV}{rsto : Sto}(h : CallA P f args sto rav rsto)(hw : ∀ σ φ vs,All2 (RepV σ φ sto) args' vs→All2 (RepV σ φ sto) args vs) : CallA P f args' sto rav rsto :=
 ⟨h.fn,fun w σ φ vs hi ha=>h.run w σ φ vs hi (hw σ φ vs ha)⟩
theorem sn{σ : Sig}{φ : Pl}{sto : Sto}{k b : Nat}{v : Value}(h : RepC σ φ sto (.d .nil) v) : RepC σ φ sto (.d (.sl k b [])) v:=by
 have h1:=RepC.d_inv h
 cases h1
 exact .d (.sl (fun _ _=>undef) (by simp) (by simp) (by simp) (by simp) (by simp) (by simp))
theorem Ay{σ : Sig}{φ : Pl}{sto : Sto}{v : Value}(h : RepV σ φ sto (.agg [.d .nil,.d .nil,.d .nil]) v) : RepV σ φ sto (sq ([],[],[])) v:=by
 obtain ⟨vs,rfl,h2⟩:=h
 match vs,h2 with
 | [x,y,z],h2=>exact ⟨_,rfl,sn h2.1,sn h2.2.1,sn h2.2.2.1,trivial⟩
 | [],h2=>exact h2.elim
 | [_],h2=>exact h2.2.elim
 | [_,_],h2=>exact h2.2.2.elim
 | _::_::_::_::_,h2=>exact h2.2.2.2.elim
theorem oE(x : List Dim×List Attr×List Cell) : tu x x = true:=by
 unfold tu
 rw [(ma Ec).2 rfl,(ma BV).2 rfl,(ma BW).2 rfl]
 rfl
theorem JH(e : Int) : CallA Tryz.prog 25 [.agg [.d .nil,.d .nil,.d .nil],.one (.d (.int .i64 e)),.agg [.d .nil,.d .nil,.d .nil],.one (.d (.int .i64 e))] [] (.one (.d (.bool true))) []:=by
 have h:=c25 ([],[],[]) ([],[],[]) e e
 rw [oE,show (e == e && true) = true by simp] at h
 refine BU h fun σ φ vs hv=>?_
 match vs,hv with
 | [x,y,z,w],hv=>exact ⟨Ay hv.1,hv.2.1,Ay hv.2.2.1,hv.2.2.2⟩
 | [],hv=>exact hv.elim
 | [_],hv=>exact hv.2.elim
 | [_,_],hv=>exact hv.2.2.elim
 | [_,_,_],hv=>exact hv.2.2.2.elim
 | _::_::_::_::_::_,hv=>exact hv.2.2.2.2.elim
theorem JI(y : Arr) : CallA Tryz.prog 25 [fX y,.one (.d (.int .i64 0)),fX y,.one (.d (.int .i64 0))] [] (.one (.d (.bool true))) []:=by
 have h:=c25 (y.dims,y.attrs,y.cells) (y.dims,y.attrs,y.cells) 0 0
 rw [oE,show ((0 : Int) == 0 && true) = true by simp] at h
 exact h
theorem N6(y : Arr) : CallA Tryz.prog 28 [fX y,fX y] [] (.one (.d (.bool true))) []:=by
 have h:=c28 (y.dims,y.attrs,y.cells) (y.dims,y.attrs,y.cells)
 rw [oE] at h
 exact h
theorem oF{P : Program}{f : FuncId}{args : List AV}{r : Option Arr×Int}{y : Arr}(h : CallA P f args [] (jV r) [])(e : r = (some y,0)) : CallA P f args [] (.tup [(true,[.d (aH y.dims),.d (aF y.attrs),.d (bg y.cells)]),(false,[.d (.int .i64 0)])]) []:=by
 rw [e] at h; exact h
theorem oG{P : Program}{f : FuncId}{args : List AV}{r : Option Arr×Int}{e : Int}(h : CallA P f args [] (jV r) [])(he : r = (none,e)) : CallA P f args [] (.tup [(true,[.d .nil,.d .nil,.d .nil]),(false,[.d (.int .i64 e)])]) []:=by
 rw [he] at h; exact h
theorem Az(ds : List Dim)(ats : List Attr)(cs : List Cell) : (∃ e,fx ds ats cs = (none,e))∨∃ y,fx ds ats cs = (some y,0):=by
 unfold fx
 split
 ·exact .inl ⟨_,rfl⟩
 ·exact .inr ⟨_,rfl⟩
theorem IL(a : Arr)(lo hi : List Int) : (∃ e,eC a lo hi = (none,e))∨∃ y,eC a lo hi = (some y,0):=by
 unfold eC
 split
 ·exact .inl ⟨_,rfl⟩
 split
 ·exact .inl ⟨_,rfl⟩
 split
 ·exact .inl ⟨_,rfl⟩
 exact Az _ _ _
theorem GN(a : Arr)(s : Scalar) : (∃ e,oP a s = (none,e))∨∃ y,oP a s = (some y,0):=by
 unfold oP
 split
 ·exact .inl ⟨_,rfl⟩
 split
 ·exact .inl ⟨_,rfl⟩
 exact Az _ _ _
set_option maxHeartbeats 8000000 in
theorem c4(a : Arr)(lo hi : List Int)(s : Scalar)(hs : tc a) : CallA Tryz.prog 4 [fX a,.one (.d (aL lo)),.one (.d (aL hi)),cY s] [] (.one (.d (.bool true))) []:=by
 unfold fX
 refine enter ae Tryz.func4 rfl (by decide +kernel) rfl fun hok w0 σ0 φ0 M=>?_
 clear hok
 rcases IL a lo hi with ⟨e1,h1⟩ | ⟨y1,h1⟩ <;> rcases GN a s with ⟨e2,h2⟩ | ⟨y2,h2⟩
 repeat' (first|(refine h1H ?_; (refine h0H ?_; first|refine aa J J J J J J J J (c19) J ?_|refine aa J J J J J J J J (JH e1) J ?_|refine aa J J J J J J J J (JI y1) J ?_|refine aa J J J J J J J J (JH e2) J ?_|refine aa J J J J J J J J (JI y2) J ?_|refine aa J J J J J J J J (N6 a) J ?_|refine aa J J J J J J J J (oG (c23 a lo hi) h1) J ?_|refine aa J J J J J J J J (oG (c24 a lo hi) h1) J ?_|refine aa J J J J J J J J (oG (c26 a s) h2) J ?_|refine aa J J J J J J J J (oG (c27 a s) h2) J ?_|refine aw 16 J J J J J J J J (c22 a hs) J J J ?_|refine aw 16 J J J J J J J J (oF (c23 a lo hi) h1) J J J ?_|refine aw 16 J J J J J J J J (oF (c24 a lo hi) h1) J J J ?_|refine aw 16 J J J J J J J J (oF (c26 a s) h2) J J J ?_|refine aw 16 J J J J J J J J (oF (c27 a s) h2) J J J ?_))|refine wG ?_|(refine h4H ?_; refine ag J (fun h=>?_) (fun h=>?_)))
 all_goals first
  | rfl
  | trace_state
end Go.Proofs.YtpejdgkaapnekaaGreat
namespace Go.Proofs.YtpejdgkaapnekaaGreat
open Go Go.Abs
open Go.ChangeShapes Go.WideShapes Go.ChangeAt Go.RowKit
set_option maxRecDepth 100000 in
theorem sr(H : Type)(en : TypeId×Value→H)(W : World)(base : Nat)(args : Array Value)(ds gs : List (DataW H))(before : List MemPlace)
  (hval : ∀ (j : Nat) t v,Tryz.f4.params[j]? = some t→args[j]? = some v→Value.okWide Tryz.prog W .any base t v)
  (hW : DataW.Whole en Tryz.prog Tryz.f4.params.toList Rows.algebraChoosesSpec.vars false W args.toList ds gs before) (hk : Rows.uptoSmall H (ds ++ gs) = true) :
  Calls Tryz.prog 4 args W fun e W'=>∃ v,e = .returned v∧Rows.algebraChoosesSpec.post en Tryz.prog Tryz.f4 false true false false W args v W':=by
 have hW':=hW
 obtain ⟨p,q,hA0,hV,rfl,hfz,hnd⟩:=hW
 have hA : DataW.TrodAll en Tryz.prog W 0 (fun _=>true) true Tryz.f4.params.toList args.toList ds p:=hA0
 rw [Tryz.params4] at hA hval
 obtain ⟨v0,vs0,d0,ds0,p0,q0,hargs,rfl,rfl,h0,r0⟩:=trodAll_cons hA
 obtain ⟨v1,vs1,d1,ds1,p1,q1,rfl,rfl,rfl,h1,r1⟩:=trodAll_cons r0
 obtain ⟨v2,vs2,d2,ds2,p2,q2,rfl,rfl,rfl,h2,r2⟩:=trodAll_cons r1
 obtain ⟨v3,vs3,d3,ds3,p3,q3,rfl,rfl,rfl,h3,r3⟩:=trodAll_cons r2
 obtain ⟨rfl,rfl,rfl⟩:=trodAll_nil r3
 obtain rfl : args = #[v0,v1,v2,v3]:=by cases args; simp_all
 obtain ⟨rfl,rfl⟩:=trodVars_none hV
 obtain ⟨cs0,rfl⟩:=tw Tryz.underlying26 (hval 0 26 v0 rfl rfl)
 obtain ⟨s1,l1,c1,rfl⟩:=okWide_slice Tryz.underlying37 (hval 1 37 v1 rfl rfl)
 obtain ⟨s2,l2,c2,rfl⟩:=okWide_slice Tryz.underlying37 (hval 2 37 v2 rfl rfl)
 obtain ⟨cs3,rfl⟩:=tw Tryz.underlying31 (hval 3 31 v3 rfl rfl)
 have hbk : (Rows.uptoBulk d0 + (Rows.uptoBulk d1 + (Rows.uptoBulk d2 + (Rows.uptoBulk d3))))≤1048576:=by
  simpa [Rows.uptoSmall,Rows.uptoBulkAll] using hk
 obtain ⟨f0,h0⟩:=h0
 obtain ⟨f1,h1⟩:=h1
 obtain ⟨f2,h2⟩:=h2
 obtain ⟨f3,h3⟩:=h3
 obtain ⟨a0,hl0,ha0⟩:=JK (N:=1048571) (by omega) f0 _ _ h0 (by show Rows.uptoBulk d0≤_; omega)
 obtain ⟨a1,hl1,ha1⟩:=hJ (f:=bD) (N:=1048575) (k:=1) (b:=8) (by omega) (by omega) (by omega) Tryz.underlying37 kT (iT Tryz.underlying3) f1 _ _ h1 (by show Rows.uptoBulk d1≤_; omega)
 obtain ⟨a2,hl2,ha2⟩:=hJ (f:=bD) (N:=1048575) (k:=1) (b:=8) (by omega) (by omega) (by omega) Tryz.underlying37 kT (iT Tryz.underlying3) f2 _ _ h2 (by show Rows.uptoBulk d2≤_; omega)
 obtain ⟨a3,hl3,ha3⟩:=Ed 1048576 (by omega) f3 _ _ h3 (by show Rows.uptoBulk d3≤_; omega)
 rw [uJ] at ha3
 refine ((c4 a0 a1 a2 a3 (Ee hl0)).run W (sg W) (fun _=>none) [.agg cs0.toArray,.slice s1 l1 c1,.slice s2 l2 c2,.agg cs3.toArray] (JL _) ⟨⟨cs0,rfl,lQ ha0⟩,RepC.d ha1.1,RepC.d ha2.1,⟨cs3,rfl,lQ ha3⟩,trivial⟩).mono fun e W' ⟨v,σ',φ',he,hret⟩=>?_
 subst he
 have hv : v = .bool true:=by
  have h2:=RepC.d_inv hret.rep
  cases h2; rfl
 subst hv
 have hsame : ∀ p∈p0 ++ (p1 ++ (p2 ++ (p3 ++ []))),W.sameAt W' p:=fun p hp=>F6 hret.kept (hW'.lt p (by simpa using hp))
 have hAk:=yt hA0 hsame
 exact ⟨_,rfl,_,_,_,[],_,[],hW',trodAll_mk1 (F7 true),DataW.TrodAll.respare Oe Of (by
   rw [Tryz.params4]
   intro t ht
   have ht' : t = 26∨t = 37∨t = 37∨t = 31:=by simpa using ht
   rcases ht' with rfl | rfl | rfl | rfl <;> exact few (by omega)) hAk (fun p hp=>by
    have:=hW'.lt p (by simpa using hp)
    simpa using this),rfl,HV hret.kept _,fun h=>by cases h⟩
end Go.Proofs.YtpejdgkaapnekaaGreat
