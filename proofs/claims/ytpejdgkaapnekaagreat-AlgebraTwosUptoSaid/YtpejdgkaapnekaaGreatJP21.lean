import Derived.Test.YtpejdgkaapnekaaGreatJP20
import Derived.Test.YtpejdgkaapnekaaGreatJP18
set_option linter.unusedVariables false
set_option linter.unusedSimpArgs false
set_option maxHeartbeats 1000000
namespace Go.Proofs.YtpejdgkaapnekaaGreat
open Go Go.Abs
attribute [local irreducible] aa OkC aq aC ax aS
set_option maxRecDepth 10000
theorem Cq(l : List Cell) : CallA Tryz.prog 128 [.one (.d (ak l))] [] (.one (.own 0 l.length)) [(0,.row 2 48 (l.map af))]:=by
 refine enter ag Tryz.func128 rfl (by decide +kernel) rfl fun hok w0 σ0 φ0 M=>?_
 have h1:=hok.1.sl; clear hok; simp only [List.length_map] at h1
 by_cases hl : l = []
 ·subst hl
  repeat' (first|(refine h1H ?_; (refine h6H ?_; refine cy ag J J J J J J (fun r hr=>?_)))|(refine h1H ?_; (refine h0H ?_; refine bO ag J J J J J (id:=0) J J J J J J J (by simp only [List.length_map,Nat.zero_add]; omega) (by simp only [List.length_map,Nat.zero_add]; omega) ?_))|(refine h5H ?_; refine bm (ej (s:=2) (id:=0) (k:=2) (b:=48) J J J J) (bV ?_))|refine wG ?_|(refine h5H ?_; refine ao J (fun h=>?_) (fun h=>?_)))
  all_goals rfl
 ·repeat' (first|(refine h1H ?_; (refine h6H ?_; refine cy ag J J J J J J (fun r hr=>?_)))|(refine h1H ?_; (refine h0H ?_; refine bO ag J J J J J (id:=0) J J J J J J J (by simp only [List.length_map,Nat.zero_add]; omega) (by simp only [List.length_map,Nat.zero_add]; omega) ?_))|(refine h5H ?_; refine bm (ej (s:=2) (id:=0) (k:=2) (b:=48) J J J J) (bV ?_))|refine wG ?_|(refine h5H ?_; refine ao J (fun h=>?_) (fun h=>?_)))
  ·have e:=hr (by simpa using h)
   simp only [List.map_eq_nil_iff] at e
   exact absurd e hl
  ·simp
theorem CA(l : List Int) : CallA Tryz.prog 129 [.one (.d (aF l))] [] (.one (.own 0 l.length)) [(0,.row 1 8 (l.map aB))]:=by
 refine enter ag Tryz.func129 rfl (by decide +kernel) rfl fun hok w0 σ0 φ0 M=>?_
 have h1:=hok.1.sl; clear hok; simp only [List.length_map] at h1
 by_cases hl : l = []
 ·subst hl
  repeat' (first|(refine h1H ?_; (refine h6H ?_; refine cy ag J J J J J J (fun r hr=>?_)))|(refine h1H ?_; (refine h0H ?_; refine bO ag J J J J J (id:=0) J J J J J J J (by simp only [List.length_map,Nat.zero_add]; omega) (by simp only [List.length_map,Nat.zero_add]; omega) ?_))|(refine h5H ?_; refine bm (ej (s:=2) (id:=0) (k:=1) (b:=8) J J J J) (bV ?_))|refine wG ?_|(refine h5H ?_; refine ao J (fun h=>?_) (fun h=>?_)))
  all_goals rfl
 ·repeat' (first|(refine h1H ?_; (refine h6H ?_; refine cy ag J J J J J J (fun r hr=>?_)))|(refine h1H ?_; (refine h0H ?_; refine bO ag J J J J J (id:=0) J J J J J J J (by simp only [List.length_map,Nat.zero_add]; omega) (by simp only [List.length_map,Nat.zero_add]; omega) ?_))|(refine h5H ?_; refine bm (ej (s:=2) (id:=0) (k:=1) (b:=8) J J J J) (bV ?_))|refine wG ?_|(refine h5H ?_; refine ao J (fun h=>?_) (fun h=>?_)))
  ·have e:=hr (by simpa using h)
   simp only [List.map_eq_nil_iff] at e
   exact absurd e hl
  ·simp
theorem oz(xs : List (List D))(a b : List Dim)(hx : xs = a.map al) : CallA Tryz.prog 120 [.one (.d (.sl 3 32 xs)),.one (.d (aj b))] [] (.one (.d (.bool (aP cL a b)))) []:=by
 subst hx; exact Gi a b
theorem mO(ds : List Dim)(ats : List Attr)(cs : D)(name : List UInt8)(k : Nat)(h : bk ds name = (k : Int)) : CallA Tryz.prog 126 [.agg [.d (aj ds),.d (ai ats),.d cs],.one (.d (.str name))] [] (.one (.d (.int .i64 (k : Int)))) []:=by
 have h1:=xH ds ats cs name
 unfold bk at h
 rw [h] at h1
 exact h1
theorem cT{α : Type}{f : α→List D}{l : List α}{k n : Nat}{x : α}(hn : l.length≤n) : List.take n ((l.map f).set k (f x)) = (l.set k x).map f:=by
 rw [List.take_of_length_le (by simpa using hn),← List.map_set]
set_option maxHeartbeats 4000000 in
theorem c34(a b : Arr)(name : List UInt8)(hfew : a.cells.length + b.cells.length≤4096) : CallA Tryz.prog 34 [aO a,aO b,.one (.d (.str name))] [] (er (dR a b name)) []:=by
 unfold aO
 refine enter ag Tryz.func34 rfl (by decide +kernel) rfl fun hok w0 σ0 φ0 M=>?_
 clear hok
 by_cases hc : bZ a = 0∧bZ b = 0
 rotate_left
 ·have hv : (!bF [a,b]) = true:=by
   simp only [bF,List.all_cons,List.all_nil,Bool.and_true,Bool.not_eq_true',Bool.and_eq_false_iff,beq_eq_false_iff_ne]
   omega
  have e : dR a b name = (none,2):=by
   unfold dR
   rw [if_pos (by unfold bZ at hc; omega)]
  rw [e]
  repeat' (first|(refine h1H ?_; (refine h0H ?_; refine bj [3] J J J J J J J J J (c96 [a,b]) J ?_))|refine wG ?_)
  all_goals rfl
 have hv : (!bF [a,b]) = false:=by simp [bF,hc.1,hc.2]
 have hA:=okA hc.1
 have hB:=okA hc.2
 have hne : 0 < a.dims.length:=by have:=hA.dims.1; omega
 have hcc : ¬ (bz a.dims a.attrs a.cells≠0∨bz b.dims b.attrs b.cells≠0):=by unfold bZ at hc; omega
 by_cases hd : bk a.dims name < 0
 ·have hb0 : decide (aD (fun a : Dim=>a.name == name) a.dims 0 < 0) = true:=by simpa [bk] using hd
  have e : dR a b name = (none,11):=by
   unfold dR
   rw [if_neg hcc,if_pos hd]
  rw [e]
  repeat' (first|(refine h1H ?_; (refine h0H ?_; first|refine bj [3] J J J J J J J J J (c96 [a,b]) J ?_|refine ab J J J J J J J J (xH _ _ _ _) J ?_))|refine wG ?_)
  all_goals rfl
 obtain ⟨k,hk,hk2,hk3,hk4⟩:=iF hd
 have hb0 : decide (((k : Nat) : Int) < 0) = false:=by simp
 by_cases hal : cq a.dims b.dims = true
 rotate_left
 ·have hb1 : (!cq a.dims b.dims) = true:=by simpa using hal
  have e : dR a b name = (none,13):=by
   unfold dR
   rw [if_neg hcc,if_neg hd,if_pos hb1]
  rw [e]
  repeat' (first|(refine h1H ?_; (refine h0H ?_; first|refine bj [3] J J J J J J J J J (c96 [a,b]) J ?_|refine dw 10 [] (rav':=.one (.own 10 a.dims.length)) (jt a.dims hne) J J J J J J trivial cb J J J J ?_|refine ab J J J J J J J J (nu _ _) J ?_|refine ab J J J J J J J J (mO _ _ _ _ k hk) J ?_))|refine wG ?_)
  all_goals rfl
 have hb1 : (!cq a.dims b.dims) = false:=by simpa using hal
 have hlen : a.dims.length = b.dims.length:=(sameF_all.1 hal).1
 have hkb : k < b.dims.length:=by omega
 have ba : -1073741824≤(at_ a.dims ((k : Nat) : Int).toNat).lo∧(at_ a.dims ((k : Nat) : Int).toNat).lo≤1073741824∧(at_ a.dims ((k : Nat) : Int).toNat).lo≤(at_ a.dims ((k : Nat) : Int).toNat).hi∧(at_ a.dims ((k : Nat) : Int).toNat).hi≤1073741825:=(hA.dims.2.2.1 k hk2).1
 have bb : -1073741824≤(at_ b.dims ((k : Nat) : Int).toNat).lo∧(at_ b.dims ((k : Nat) : Int).toNat).lo≤1073741824∧(at_ b.dims ((k : Nat) : Int).toNat).lo≤(at_ b.dims ((k : Nat) : Int).toNat).hi∧(at_ b.dims ((k : Nat) : Int).toNat).hi≤1073741825:=(hB.dims.2.2.1 k hkb).1
 have hcat : dR a b name = if !aP cL (a.dims.set k (at_ b.dims k)) b.dims∨(at_ a.dims k).hi = 1073741825∨(at_ b.dims k).hi = 1073741825 then (none,13)
   else if !aP b8 a.attrs b.attrs then (none,12)
   else if 1073741824 < (bW a b k).hi then (none,3)
   else dx (a.dims.set k (bW a b k)) a.attrs (a.cells ++ b.cells.map (bR k (byF a b k))):=by
  unfold dR
  rw [if_neg hcc,if_neg hd,if_neg (by simpa using hal),hk,Int.toNat_natCast]
 by_cases hs : aP cL (a.dims.set k (at_ b.dims k)) b.dims = true∧(at_ a.dims k).hi≠1073741825∧(at_ b.dims k).hi≠1073741825
 rotate_left
 ·have e : dR a b name = (none,13):=by
   rw [hcat,if_pos]
   by_cases h1 : aP cL (a.dims.set k (at_ b.dims k)) b.dims = true
   ·by_cases h2 : (at_ a.dims k).hi = 1073741825
    ·exact .inr (.inl h2)
    ·exact .inr (.inr (Classical.byContradiction fun h3=>hs ⟨h1,h2,h3⟩))
   ·exact .inl (by simpa using h1)
  rw [e]
  by_cases hs1 : aP cL (a.dims.set k (at_ b.dims k)) b.dims = true
  ·have hb2 : (!aP cL (a.dims.set k (at_ b.dims k)) b.dims) = false:=by simp [hs1]
   by_cases hs2 : (at_ a.dims k).hi = 1073741825
   ·have hb3 : ((at_ a.dims ((k : Nat) : Int).toNat).hi == 1073741825) = true:=by simpa using hs2
    repeat' (first|(refine h1H ?_; (refine h0H ?_; first|refine bj [3] J J J J J J J J J (c96 [a,b]) J ?_|refine dw 10 [] (rav':=.one (.own 10 a.dims.length)) (jt a.dims hne) J J J J J J trivial cb J J J J ?_|refine bj [10] J J J J J J J J J (oz _ (a.dims.set k (at_ b.dims k)) b.dims (cT (Nat.le_refl _))) J ?_|refine ab J J J J J J J J (nu _ _) J ?_|refine ab J J J J J J J J (mO _ _ _ _ k hk) J ?_))|refine wG ?_)
    all_goals rfl
   ·have hb3 : ((at_ a.dims ((k : Nat) : Int).toNat).hi == 1073741825) = false:=by simpa using hs2
    have hb4 : ((at_ b.dims ((k : Nat) : Int).toNat).hi == 1073741825) = true:=by
     have : (at_ b.dims k).hi = 1073741825:=Classical.byContradiction fun h3=>hs ⟨hs1,hs2,h3⟩
     simpa using this
    repeat' (first|(refine h1H ?_; (refine h0H ?_; first|refine bj [3] J J J J J J J J J (c96 [a,b]) J ?_|refine dw 10 [] (rav':=.one (.own 10 a.dims.length)) (jt a.dims hne) J J J J J J trivial cb J J J J ?_|refine bj [10] J J J J J J J J J (oz _ (a.dims.set k (at_ b.dims k)) b.dims (cT (Nat.le_refl _))) J ?_|refine ab J J J J J J J J (nu _ _) J ?_|refine ab J J J J J J J J (mO _ _ _ _ k hk) J ?_))|refine wG ?_)
    all_goals rfl
  ·have hb2 : (!aP cL (a.dims.set k (at_ b.dims k)) b.dims) = true:=by simp [hs1]
   repeat' (first|(refine h1H ?_; (refine h0H ?_; first|refine bj [3] J J J J J J J J J (c96 [a,b]) J ?_|refine dw 10 [] (rav':=.one (.own 10 a.dims.length)) (jt a.dims hne) J J J J J J trivial cb J J J J ?_|refine bj [10] J J J J J J J J J (oz _ (a.dims.set k (at_ b.dims k)) b.dims (cT (Nat.le_refl _))) J ?_|refine ab J J J J J J J J (nu _ _) J ?_|refine ab J J J J J J J J (mO _ _ _ _ k hk) J ?_))|refine wG ?_)
   all_goals rfl
 obtain ⟨hs1,hs2,hs3⟩:=hs
 have hb2 : (!aP cL (a.dims.set k (at_ b.dims k)) b.dims) = false:=by simp [hs1]
 have hb3 : ((at_ a.dims ((k : Nat) : Int).toNat).hi == 1073741825) = false:=by simpa using hs2
 have hb4 : ((at_ b.dims ((k : Nat) : Int).toNat).hi == 1073741825) = false:=by simpa using hs3
 rw [if_neg (by simp [hs1,hs2,hs3])] at hcat
 by_cases hat : aP b8 a.attrs b.attrs = true
 rotate_left
 ·have hb5 : (!aP b8 a.attrs b.attrs) = true:=by simp [hat]
  rw [if_pos hb5] at hcat
  rw [hcat]
  repeat' (first|(refine h1H ?_; (refine h0H ?_; first|refine bj [3] J J J J J J J J J (c96 [a,b]) J ?_|refine dw 10 [] (rav':=.one (.own 10 a.dims.length)) (jt a.dims hne) J J J J J J trivial cb J J J J ?_|refine bj [10] J J J J J J J J J (oz _ (a.dims.set k (at_ b.dims k)) b.dims (cT (Nat.le_refl _))) J ?_|refine ab J J J J J J J J (nu _ _) J ?_|refine ab J J J J J J J J (xT _ _) J ?_|refine ab J J J J J J J J (mO _ _ _ _ k hk) J ?_))|refine wG ?_)
  all_goals rfl
 have hb5 : (!aP b8 a.attrs b.attrs) = false:=by simp [hat]
 rw [if_neg (by simp [hat])] at hcat
 by_cases hmx : 1073741824 < (at_ b.dims k).hi + ((at_ a.dims k).hi - (at_ b.dims k).lo + 1)
 ·have hb6 : decide (1073741824 < (at_ b.dims ((k : Nat) : Int).toNat).hi + ((at_ a.dims ((k : Nat) : Int).toNat).hi - (at_ b.dims ((k : Nat) : Int).toNat).lo + 1)) = true:=by simpa using hmx
  rw [if_pos (by unfold bW byF; exact hmx)] at hcat
  rw [hcat]
  repeat' (first|(refine h1H ?_; (refine h0H ?_; first|refine bj [3] J J J J J J J J J (c96 [a,b]) J ?_|refine dw 10 [] (rav':=.one (.own 10 a.dims.length)) (jt a.dims hne) J J J J J J trivial cb J J J J ?_|refine bj [10] J J J J J J J J J (oz _ (a.dims.set k (at_ b.dims k)) b.dims (cT (Nat.le_refl _))) J ?_|refine ab J J J J J J J J (nu _ _) J ?_|refine ab J J J J J J J J (xT _ _) J ?_|refine ab J J J J J J J J (mO _ _ _ _ k hk) J ?_))|refine wG ?_)
  all_goals rfl
 have hb6 : decide (1073741824 < (at_ b.dims ((k : Nat) : Int).toNat).hi + ((at_ a.dims ((k : Nat) : Int).toNat).hi - (at_ b.dims ((k : Nat) : Int).toNat).lo + 1)) = false:=by simpa using hmx
 rw [if_neg (by unfold bW byF; exact hmx)] at hcat
 have hda:=(hA.dims.2.2.1 k hk2).1
 have hdb:=(hB.dims.2.2.1 k hkb).1
 have hset:=(c9 fG).1 hs1
 have hC : Cat a b name k:=⟨hA,hB,hk2,hk3,hk4,hlen,fun i hi=>by simpa using (sameF_all.1 hal).2 i hi,fun i hi hne2=>by
  have:=congrArg (fun l=>at_ l i) hset
  rw [jh hi,if_neg hne2] at this
  exact this,by omega,by omega,(c9 fS).1 hat,by unfold bW byF; dsimp only; omega⟩
 have hll : (a.cells ++ b.cells.map (bR k (byF a b k))).length≤4096:=by rw [List.length_append,List.length_map]; exact hfew
 have hres : dR a b name = (some ⟨a.dims.set k (bW a b k),a.attrs,bp (a.cells ++ b.cells.map (bR k (byF a b k)))⟩,0):=by
  rw [hcat]; unfold dx; rw [if_neg (by omega)]
 rw [hres]
 have hbl : ∀ i,i < b.cells.length→(at_ b.cells i).at'.length = a.dims.length:=fun i hi=>(hC.bcell (aX hi)).1
 have hbk : ∀ i,i < b.cells.length→((k : Nat) : Int) < ((at_ b.cells i).at'.length : Int):=fun i hi=>by rw [hbl i hi]; omega
 have hbk2 : ∀ i,i < b.cells.length→((k : Nat) : Int).toNat < (at_ b.cells i).at'.length:=fun i hi=>by rw [hbl i hi]; omega
 have had : ∀ i,i < b.cells.length→IntKind.i64.wrap (at_ (at_ b.cells i).at' ((k : Nat) : Int).toNat + ((at_ a.dims ((k : Nat) : Int).toNat).hi - (at_ b.dims ((k : Nat) : Int).toNat).lo + 1)) = at_ (at_ b.cells i).at' ((k : Nat) : Int).toNat + ((at_ a.dims ((k : Nat) : Int).toNat).hi - (at_ b.dims ((k : Nat) : Int).toNat).lo + 1):=fun i hi=>by
  have h:=(hC.bcell (aX hi)).2.2.2 k hk2
  rw [fH hC.hb] at h
  refine ic ?_ ?_ <;> (simp only [Int.toNat_natCast]; omega)
 have hX : List.take a.dims.length ((((a.dims.map al).set k [.str (at_ b.dims k).name,.int .i64 (at_ b.dims k).lo,.int .i64 (at_ b.dims k).hi]).set k [.str (at_ b.dims k).name,.int .i64 (at_ a.dims k).lo,.int .i64 (at_ b.dims k).hi]).set k [.str (at_ b.dims k).name,.int .i64 (at_ a.dims k).lo,.int .i64 ((at_ b.dims k).hi + ((at_ a.dims k).hi - (at_ b.dims k).lo + 1))]) = (a.dims.set k (bW a b k)).map al:=by
  rw [List.set_set,List.set_set]
  exact cT (x:=bW a b k) (Nat.le_refl _)
 repeat' (first|(refine h1H ?_; (refine h0H ?_; first|refine bj [3] J J J J J J J J J (c96 [a,b]) J ?_|refine dw 10 [] (rav':=.one (.own 10 a.dims.length)) (jt a.dims hne) J J J J J J trivial cb J J J J ?_|refine bj [10] J J J J J J J J J (oz _ (a.dims.set k (at_ b.dims k)) b.dims (cT (Nat.le_refl _))) J ?_|refine dw 30 [] (rav':=.one (.own 30 a.cells.length)) (Cq a.cells) J J J J J J trivial cb J J J J ?_|refine dw 50 [] (rav':=.one (.own 50 _)) (CA _) J J J J J J trivial cb J J J J ?_))|(refine h1H ?_; (refine tY ?_; refine s_e envOk J J J (eH J J J J J J (Int.natCast_nonneg _) (hbk _ wB)) ?_))|(refine h1H ?_; (refine B2 ?_; refine s_e envOk J J J (cW J J J J (db (hbk2 _ wB)) J) ?_))|(refine h1H ?_; (refine Ia ?_; refine lR envOk J J (b9 J J J J J J J J J (db (hbk2 _ wB)) J) ?_))|(refine h1H ?_; (refine Ib ?_; refine s_e envOk J J J (jn J J J J (had _ wB)) ?_))|(refine h1H ?_; (refine h0H ?_; first|refine jP 70 [10,30] J J J J J J J J J (AT (a.dims.set k (bW a b k)) a.attrs (a.cells ++ b.cells.map (bR k (byF a b k))) _ _ hC.diff hll hX (by rw [List.take_of_length_le (by omega),hq3,List.take_of_length_le wB])) J J J ?_|refine ab J J J J J J J J (nu _ _) J ?_|refine ab J J J J J J J J (xT _ _) J ?_|refine ab J J J J J J J J (mO _ _ _ _ k hk) J ?_))|refine wG ?_|(refine h5H ?_; first|refine ao J (fun h=>?_) (fun h=>?_)|refine dJ 20 J [(3,_),(6,_),(8,_),(9,_),(10,_),(125,_),(126,_)] (q7Q J J J J J J J) (fun (q : Nat×List (List D))=>[(11,.one (.own 30 (a.cells.length + q.1))),(127,.one (.d (.int .i64 (q.1 : Int))))]) (fun (q : Nat×List (List D))=>[(10,.row 3 32 ((((a.dims.map al).set k [.str (at_ b.dims k).name,.int .i64 (at_ b.dims k).lo,.int .i64 (at_ b.dims k).hi]).set k [.str (at_ b.dims k).name,.int .i64 (at_ a.dims k).lo,.int .i64 (at_ b.dims k).hi]).set k [.str (at_ b.dims k).name,.int .i64 (at_ a.dims k).lo,.int .i64 ((at_ b.dims k).hi + ((at_ a.dims k).hi - (at_ b.dims k).lo + 1))])),(30,.row 2 48 q.2),(0,.box [.d (aj a.dims),.d (ai a.attrs),.d (ak a.cells)]),(1,.box [.d (aj b.dims),.d (ai b.attrs),.d (ak b.cells)]),(2,.box [.d .nil,.d .nil,.d .nil])]) (fun (q : Nat×List (List D))=>q.1≤b.cells.length∧q.2.length = a.cells.length + q.1∧q.2 = (a.cells ++ (b.cells.take q.1).map (bR k (byF a b k))).map af) (fun (q : Nat×List (List D))=>b.cells.length - q.1) (0,a.cells.map af) (q2Q J J) wK ?_ (fun q ⟨hq1,hq2,hq3⟩=>?_))|(show Exists _; refine Exists.intro ((q.1 + 1,q.2.take (a.cells.length + q.1) ++ [[.sl 1 8 (List.take (at_ b.cells q.1).at'.length (((at_ b.cells q.1).at'.map aB).set k [.int .i64 (at_ (at_ b.cells q.1).at' k + ((at_ a.dims k).hi - (at_ b.dims k).lo + 1))])),bM (at_ b.cells q.1).vals]])) ⟨?_,?_,wK,(q2Q J J),(q7Q J J J J J J J)⟩))
 ·exact ⟨Nat.zero_le _,by simp,by simp⟩
 ·have hlt : q.1 < b.cells.length:=by simpa using h
  have e : [D.sl 1 8 (List.take (at_ b.cells q.1).at'.length (((at_ b.cells q.1).at'.map aB).set k [.int .i64 (at_ (at_ b.cells q.1).at' k + ((at_ a.dims k).hi - (at_ b.dims k).lo + 1))])),bM (at_ b.cells q.1).vals] = af (bR k (byF a b k) (at_ b.cells q.1)):=by
   rw [show List.take (at_ b.cells q.1).at'.length (((at_ b.cells q.1).at'.map aB).set k [.int .i64 (at_ (at_ b.cells q.1).at' k + ((at_ a.dims k).hi - (at_ b.dims k).lo + 1))]) = _ from cT (f:=aB) (x:=at_ (at_ b.cells q.1).at' k + ((at_ a.dims k).hi - (at_ b.dims k).lo + 1)) (Nat.le_refl _)]
   rfl
  refine ⟨hlt,?_,?_⟩
  ·show (q.2.take (a.cells.length + q.1) ++ [_]).length = a.cells.length + (q.1 + 1)
   rw [List.length_append,List.length_take]; simp [hq2]; omega
  ·show q.2.take (a.cells.length + q.1) ++ [_] = List.map af (a.cells ++ List.map _ (List.take (q.1 + 1) b.cells))
   rw [List.take_of_length_le (by omega),hq3,e,ch hlt,List.map_append (f:=bR k (byF a b k)),← List.append_assoc,List.map_append (f:=af) (l₁:=a.cells ++ List.map (bR k (byF a b k)) (List.take q.1 b.cells))]
   rfl
 ·have hlt : q.1 < b.cells.length:=by simpa using h
  show b.cells.length - (q.1 + 1) < b.cells.length - q.1
  omega
 ·rfl
end Go.Proofs.YtpejdgkaapnekaaGreat
namespace Go.Proofs.YtpejdgkaapnekaaGreat
open Go Go.Abs
attribute [local irreducible] aa OkC aq aC ax aS
set_option maxRecDepth 10000
theorem uQ{V : Env}{st : St}{o : Oper}{t id : Nat}{m : MTy}{x y : Operand}{a : List Int}{f : Nat→D}{ks : List (List Int)}(ho : o.op = .lookup t x y false)(hm : Abs.look V.M t = some m)(hms : m.ks = pk)(hk : m.kg = true)(hv : m.vg = false)(hz : m.z = [.bool false])
  (hx : ev st x = some (.one (.mapr id))) (hl : Abs.look st.sto id = some (.map true false (cS f ks 0))) (hy : ev st y = some (j6 a)) (h4 : a.length≤4) (hks : ∀ k∈ks,k.length = a.length)
  (hw : bQ a ks 0 = none) : aM V st o 0 = some ⟨.one (.d (.bool false)),[],[]⟩ :=
 iZ ho hm hms hk hv hx hl hy h4 hks (by rw [hw,hz]; rfl)
theorem uR{V : Env}{st : St}{o : Oper}{t id j : Nat}{m : MTy}{x y : Operand}{a : List Int}{f : Nat→D}{ks : List (List Int)}(ho : o.op = .lookup t x y false)(hm : Abs.look V.M t = some m)(hms : m.ks = pk)(hk : m.kg = true)(hv : m.vg = false)
  (hx : ev st x = some (.one (.mapr id))) (hl : Abs.look st.sto id = some (.map true false (cS f ks 0))) (hy : ev st y = some (j6 a)) (h4 : a.length≤4) (hks : ∀ k∈ks,k.length = a.length)
  (hw : bQ a ks 0 = some j) : aM V st o 0 = some ⟨.one (.d (f j)),[],[]⟩ :=
 iZ ho hm hms hk hv hx hl hy h4 hks (by rw [hw]; rfl)
theorem whereK_none{x : List Int} : ∀ {ks : List (List Int)} {n : Nat},bQ x ks n = none↔∀ k∈ks,k≠x
 | [],n=>by simp [bQ]
 | k::r,n=>by
   simp only [bQ]
   split
   ·rename_i h
    constructor
    ·intro h2; cases h2
    ·intro h2; exact absurd (by simpa using h) (h2 k List.mem_cons_self)
   ·rename_i h
    rw [whereK_none]
    constructor
    ·intro h2 y hy
     rcases List.mem_cons.1 hy with rfl | hy
     ·simpa using h
     ·exact h2 y hy
    ·intro h2 y hy; exact h2 y (List.mem_cons_of_mem _ hy)
def dP(ds es : List Dim)(k : Nat) : List Dim:=(List.range ds.length).map fun i=>if i < k then iY (at_ ds i) (at_ es i) else at_ ds i
section
variable {ds es : List Dim} {k : Nat}
theorem gu : (dP ds es k).length = ds.length:=by simp [dP]
theorem jQ{i : Nat}(h : i < ds.length) : at_ (dP ds es k) i = if i < k then iY (at_ ds i) (at_ es i) else at_ ds i:=by
 unfold dP; rw [bI (by simpa using h),BE h]
theorem rZ : dP ds es 0 = ds:=dN gu fun i hi=>by rw [gu] at hi; rw [jQ hi,if_neg (by omega)]
theorem tN(hl : ds.length = es.length) : dP ds es ds.length = cP ds es:=dN (by rw [gu]; simp [cP]; omega) fun i hi=>by
 rw [gu] at hi
 rw [jQ hi,if_pos hi]
 unfold cP
 rw [qq hi (by omega)]
theorem r4(h : k < ds.length)(x : List D) : (((dP ds es k).map al).set k x).set k (al (iY (at_ ds k) (at_ es k))) = (dP ds es (k + 1)).map al:=by
 rw [List.set_set,← List.map_set]
 congr 1
 refine dN (by simp [gu]) fun i hi=>?_
 have hi' : i < ds.length:=by simpa [gu] using hi
 rw [jh (by rw [gu]; exact hi'),jQ hi',jQ hi']
 by_cases e : i = k
 ·subst e; simp
 ·by_cases h1 : i < k
  ·rw [if_neg e,if_pos h1,if_pos (by omega)]
  ·rw [if_neg e,if_neg h1,if_neg (by omega)]
end
theorem zW(a b : Arr) :
  ((!bF [a,b]) = true∧eU a b = (none,2)) ∨
  ((!bF [a,b]) = false∧(!cq a.dims b.dims) = true∧eU a b = (none,13)) ∨
  ((!bF [a,b]) = false∧(!cq a.dims b.dims) = false∧(!aP b8 a.attrs b.attrs) = true∧eU a b = (none,12)) ∨
  ((!bF [a,b]) = false∧(!cq a.dims b.dims) = false∧(!aP b8 a.attrs b.attrs) = false∧Mrg a b):=by
 by_cases hc : bZ a≠0∨bZ b≠0
 ·refine .inl ⟨?_,by unfold eU; rw [if_pos hc]⟩
  simp only [bF,List.all_cons,List.all_nil,Bool.and_true,Bool.not_eq_true',Bool.and_eq_false_iff,beq_eq_false_iff_ne]
  exact hc
 have h1 : bZ a = 0:=by omega
 have h2 : bZ b = 0:=by omega
 have hv : (!bF [a,b]) = false:=by simp [bF,h1,h2]
 cases h3 : cq a.dims b.dims
 ·exact .inr (.inl ⟨hv,rfl,by unfold eU; rw [if_neg hc,if_pos (by simp [h3])]⟩)
 cases h4 : aP b8 a.attrs b.attrs
 ·exact .inr (.inr (.inl ⟨hv,rfl,rfl,by unfold eU; rw [if_neg hc,if_neg (by simp [h3]),if_pos (by simp [h4])]⟩))
 ·exact .inr (.inr (.inr ⟨hv,rfl,rfl,okA h1,okA h2,alike_iff.1 h3,(c9 fS).1 h4⟩))
theorem new_iff{l : List Cell}{c : Cell} : bQ c.at' (l.map Cell.at') 0 = none↔dG l c = true:=by
 rw [whereK_none,newC_iff]
 constructor
 ·rintro h ⟨y,hy,he⟩; exact h _ (List.mem_map.2 ⟨y,hy,rfl⟩) he
 ·intro h k hk he
  obtain ⟨y,hy,rfl⟩:=List.mem_map.1 hk
  exact h ⟨y,hy,he⟩
theorem CZ{l : List Cell}{ks : List (List Int)}{q : Nat}(hd : l.Pairwise bG)(h : ks = (l.take q).map Cell.at')(hq : q < l.length) : bQ (at_ l q).at' ks 0 = none:=by
 rw [whereK_none]
 intro k hk
 rw [h] at hk
 obtain ⟨y,hy,rfl⟩:=List.mem_map.1 hk
 have h2 : (l.take (q + 1)).Pairwise bG:=hd.sublist (List.take_sublist _ _)
 rw [ch hq,List.pairwise_append] at h2
 exact h2.2.2 y hy _ (by simp)
set_option maxHeartbeats 8000000 in
theorem c47(a b : Arr)(hcl : a.cells.length + b.cells.length≤4096) : CallA Tryz.prog 47 [aO a,aO b] [] (er (eU a b)) []:=by
 unfold aO
 refine enter ag Tryz.func47 rfl (by decide +kernel) rfl fun hok w0 σ0 φ0 M=>?_
 clear hok
 rcases zW a b with ⟨hv,e⟩ | ⟨hv,hb1,e⟩ | ⟨hv,hb1,hb2,e⟩ | ⟨hv,hb1,hb2,hM⟩
 all_goals (try rw [e])
 rotate_right
 have e:=wo hM hcl
 have hne : 0 < a.dims.length:=by have:=hM.oka.dims.1; omega
 have hlen:=hM.len
 have hb4:=hM.okb.dims.2.1
 have hca:=hM.oka.few
 have hcb:=hM.okb.few
 have hd4:=hM.oka.dims.2.1
 have hdf:=c3 hM.oka.srt
 have hnl : ∀ j,j < a.cells.length→(at_ a.cells j).at'.length = a.dims.length:=fun j hj=>(cellF_ok.1 (hM.oka.cel _ (aX hj))).1
 have hml : ∀ j,j < b.cells.length→(at_ b.cells j).at'.length = a.dims.length:=fun j hj=>(cellF_ok.1 (hM.okb.cel _ (aX hj))).1.trans hlen.symm
 have hn4 : ∀ j,j < a.cells.length→(at_ a.cells j).at'.length≤4:=fun j hj=>by rw [hnl j hj]; exact hd4
 have hm4 : ∀ j,j < b.cells.length→(at_ b.cells j).at'.length≤4:=fun j hj=>by rw [hml j hj]; exact hd4
 have hfl : (a.cells ++ b.cells.filter (dG a.cells)).length≤4096:=by
  have:=List.length_filter_le (dG a.cells) b.cells
  rw [List.length_append]; omega
 repeat' (first|(refine h1H ?_; (refine h0H ?_; first|refine bj [3] J J J J J J J J J (c96 [a,b]) J ?_|refine dw 10 [] (rav':=.one (.own 10 a.dims.length)) (jt a.dims hne) J J J J J J trivial cb J J J J ?_|refine dw 30 [] (rav':=.one (.own 30 a.cells.length)) (Cq a.cells) J J J J J J trivial cb J J J J ?_))|(refine h1H ?_; (refine Hl ?_; refine gX envOk 14 J J J J J J ?_))|(refine h1H ?_; (refine Hm ?_; refine lR envOk J J (yB J J J J J J J J J J (hn4 _ wB) (fun k hk=>(hq3 k hk).trans (hnl _ wB).symm) (CZ hdf hq2 wB) J) ?_))|(refine h1H ?_; (refine Ee ?_; first|refine s_e envOk J J J (uQ J J J J J J J J J (hm4 _ wB) (fun k hk=>(hq3 k hk).trans (hml _ wB).symm) (by assumption)) ?_|refine s_e envOk J J J (uR J J J J J J J J (hm4 _ wB) (fun k hk=>(hq3 k hk).trans (hml _ wB).symm) (by assumption)) ?_|((fail_if_success (have:=hwk)); (rcases zX (bQ (at_ b.cells (r.1 : Int).toNat).at' q.2 0) with hwk|⟨j,hwk⟩))))|(refine h1H ?_; (refine h0H ?_; first|refine jP 70 [10,30] J J J J J J J J J (AT (cP a.dims b.dims) a.attrs (a.cells ++ b.cells.filter (dG a.cells)) _ _ (pd hM) hfl (by rw [List.take_of_length_le (by omega),hr,show p.1 = a.dims.length from wB,tN hlen]) (by rw [List.take_of_length_le (by omega),hr4,List.take_of_length_le wB])) J J J ?_|refine ab J J J J J J J J (nu _ _) J ?_|refine ab J J J J J J J J (xT _ _) J ?_|refine ab J J J J J J J J (xB _ (hn4 _ wB)) J ?_|refine ab J J J J J J J J (xB _ (hm4 _ wB)) J ?_))|refine wG ?_|(refine h5H ?_; first|refine ao J (fun h=>?_) (fun h=>?_)|refine dJ 9 J [(2,_),(3,_),(4,_),(6,_),(42,_),(43,_)] (q6Q J J J J J J) (fun (p : Nat×List (List D))=>[(44,.one (.d (.int .i64 (p.1 : Int))))]) (fun (p : Nat×List (List D))=>[(10,.row 3 32 p.2),(0,.box [.d (aj a.dims),.d (ai a.attrs),.d (ak a.cells)]),(1,.box [.d (aj b.dims),.d (ai b.attrs),.d (ak b.cells)]),(2,.box [.d .nil,.d .nil,.d .nil])]) (fun (p : Nat×List (List D))=>p.1≤b.dims.length∧p.2.length = a.dims.length∧p.2 = (dP a.dims b.dims p.1).map al) (fun (p : Nat×List (List D))=>b.dims.length - p.1) (0,a.dims.map al) (q1Q J) wK ?_ (fun p ⟨hk,hln,hr⟩=>?_)|refine dJ 15 J [(2,_),(3,_),(4,_),(6,_),(9,_),(76,_),(77,_)] (q7Q J J J J J J J) (fun (q : Nat×List (List Int))=>[(78,.one (.d (.int .i64 (q.1 : Int))))]) (fun (q : Nat×List (List Int))=>[(14,.map true false (cS (fun _=>.bool true) q.2 0)),(10,.row 3 32 p.2),(0,.box [.d (aj a.dims),.d (ai a.attrs),.d (ak a.cells)]),(1,.box [.d (aj b.dims),.d (ai b.attrs),.d (ak b.cells)]),(2,.box [.d .nil,.d .nil,.d .nil])]) (fun (q : Nat×List (List Int))=>q.1≤a.cells.length∧q.2 = (a.cells.take q.1).map Cell.at'∧(∀ k∈q.2,k.length = a.dims.length)) (fun (q : Nat×List (List Int))=>a.cells.length - q.1) (0,[]) (q1Q J) wK ?_ (fun q ⟨hq1,hq2,hq3⟩=>?_)|refine dJ 21 J [(2,_),(4,_),(6,_),(9,_),(91,_),(92,_)] (q6Q J J J J J J) (fun (r : Nat×Nat×List (List D))=>[(12,.one (.own 30 r.2.1)),(93,.one (.d (.int .i64 (r.1 : Int))))]) (fun (r : Nat×Nat×List (List D))=>[(30,.row 2 48 r.2.2),(14,.map true false (cS (fun _=>.bool true) q.2 0)),(10,.row 3 32 p.2),(0,.box [.d (aj a.dims),.d (ai a.attrs),.d (ak a.cells)]),(1,.box [.d (aj b.dims),.d (ai b.attrs),.d (ak b.cells)]),(2,.box [.d .nil,.d .nil,.d .nil])]) (fun (r : Nat×Nat×List (List D))=>r.1≤b.cells.length∧r.2.1 = r.2.2.length∧r.2.1≤a.cells.length + r.1∧r.2.2 = (a.cells ++ (b.cells.take r.1).filter (dG a.cells)).map af) (fun (r : Nat×Nat×List (List D))=>b.cells.length - r.1) (0,a.cells.length,a.cells.map af) (q2Q J J) wK ?_ (fun r ⟨hr1,hr2,hr3,hr4⟩=>?_))|(show Exists _; first|refine Exists.intro ((r.1 + 1,r.2.1 + 1,r.2.2.take r.2.1 ++ [af (at_ b.cells r.1)])) ⟨?_,?_,wK,(q2Q J J),(q6Q J J J J J J)⟩|refine Exists.intro ((r.1 + 1,r.2)) ⟨?_,?_,wK,(q2Q J J),(q6Q J J J J J J)⟩|refine Exists.intro ((q.1 + 1,q.2 ++ [(at_ a.cells q.1).at'])) ⟨?_,?_,wK,(q1Q J),(q7Q J J J J J J J)⟩|refine Exists.intro ((p.1 + 1,(p.2.set p.1 [.str (at_ (dP a.dims b.dims p.1) p.1).name,.int .i64 (min (at_ (dP a.dims b.dims p.1) p.1).lo (at_ b.dims p.1).lo),.int .i64 (at_ (dP a.dims b.dims p.1) p.1).hi]).set p.1 [.str (at_ (dP a.dims b.dims p.1) p.1).name,.int .i64 (min (at_ (dP a.dims b.dims p.1) p.1).lo (at_ b.dims p.1).lo),.int .i64 (max (at_ (dP a.dims b.dims p.1) p.1).hi (at_ b.dims p.1).hi)])) ⟨?_,?_,wK,(q1Q J),(q6Q J J J J J J)⟩))
 all_goals first
  | rfl
  | exact ⟨Nat.zero_le _,by simp,by show a.dims.map al = _; rw [rZ]⟩
  | exact ⟨Nat.zero_le _,rfl,fun k hk=>by cases hk⟩
  | exact ⟨Nat.zero_le _,by simp,by simp,by simp⟩
  | (have hlt : p.1 < b.dims.length:=by simpa using h
     refine ⟨hlt,by simp [hln],?_⟩
     show ((p.2.set p.1 _).set p.1 _) = _
     have em : at_ (dP a.dims b.dims p.1) p.1 = at_ a.dims p.1:=by rw [jQ (by omega),if_neg (Nat.lt_irrefl _)]
     rw [em,hr]
     exact r4 (by omega) _)
  | (have hlt : p.1 < b.dims.length:=by simpa using h
     show b.dims.length - (p.1 + 1) < b.dims.length - p.1
     omega)
  | (have hlt : q.1 < a.cells.length:=by simpa using h
     refine ⟨hlt,?_,fun k hk=>?_⟩
     ·show q.2 ++ [_] = (a.cells.take (q.1 + 1)).map Cell.at'
      rw [ch hlt,List.map_append,hq2]; rfl
     ·rcases List.mem_append.1 hk with hk | hk
      ·exact hq3 k hk
      ·rw [List.mem_singleton.1 hk]; exact hnl _ hlt)
  | (have hlt : q.1 < a.cells.length:=by simpa using h
     show a.cells.length - (q.1 + 1) < a.cells.length - q.1
     omega)
  | (have hlt : r.1 < b.cells.length:=by simpa using ‹decide ((r.1 : Int) < ((b.cells.map af).length : Int)) = true›
     show b.cells.length - (r.1 + 1) < b.cells.length - r.1
     omega)
  | skip
 ·have hlt : r.1 < b.cells.length:=by simpa using h
  have hqn : q.2 = a.cells.map Cell.at':=by rw [hq2,List.take_of_length_le (by simpa using ‹decide ((q.1 : Int) < ((a.cells.map af).length : Int)) = false›)]
  have hnw : dG a.cells (at_ b.cells r.1) = true:=by rw [hqn] at hwk; exact new_iff.1 hwk
  refine ⟨hlt,?_,by show r.2.1 + 1≤a.cells.length + (r.1 + 1); omega,?_⟩
  ·show r.2.1 + 1 = (r.2.2.take r.2.1 ++ [_]).length
   rw [List.length_append,List.length_take]; simp [hr2]
  ·show r.2.2.take r.2.1 ++ [_] = List.map af (a.cells ++ List.filter (dG a.cells) (b.cells.take (r.1 + 1)))
   rw [List.take_of_length_le (by omega),hr4,iV hlt,if_pos hnw,← List.append_assoc]
   simp only [List.map_append,List.map_cons,List.map_nil]
 ·have hlt : r.1 < b.cells.length:=by simpa using h
  have hqn : q.2 = a.cells.map Cell.at':=by rw [hq2,List.take_of_length_le (by simpa using ‹decide ((q.1 : Int) < ((a.cells.map af).length : Int)) = false›)]
  have hnw : ¬ dG a.cells (at_ b.cells r.1) = true:=fun hx=>by
   have h2:=new_iff.2 hx
   rw [← hqn] at h2
   have h3 : bQ (at_ b.cells r.1).at' q.2 0 = some j:=hwk
   rw [h2] at h3; cases h3
  refine ⟨hlt,hr2,by show r.2.1≤a.cells.length + (r.1 + 1); omega,?_⟩
  show r.2.2 = List.map af (a.cells ++ List.filter (dG a.cells) (b.cells.take (r.1 + 1)))
  rw [iV hlt,if_neg hnw,List.append_nil]
  exact hr4
 ·rw [e]; rfl
end Go.Proofs.YtpejdgkaapnekaaGreat
namespace Go.Proofs.YtpejdgkaapnekaaGreat
open Go Go.Abs
attribute [local irreducible] aa OkC aq aC ax aS
set_option maxRecDepth 10000
theorem k0(a b : List Dim) : CallA Tryz.prog 154 [.one (.d (aj a)),.one (.d (aj b))] [] (.one (.d (.bool (cq a b)))) []:=by
 refine enter ag Tryz.func154 rfl (by decide +kernel) rfl fun hok w0 σ0 φ0 M=>?_
 have h1:=hok.1.sl; have h2:=hok.2.1.sl; clear hok; simp only [List.length_map] at h1 h2; replace h1:=h1.1; replace h2:=h2.1
 repeat' (first|refine wG ?_|(refine h5H ?_; first|refine ao J (fun h=>?_) (fun h=>?_)|refine bc 4 J [(0,_),(1,_)] (q2Q J J) (fun (k : Nat)=>[(5,.one (.d (.int .i64 k)))]) (fun (k : Nat)=>k≤a.length∧a.length = b.length∧cq a b = cC (fun x y=>x.name == y.name) (a.drop k) (b.drop k)) (fun (k : Nat)=>a.length - k) 0 (q1Q J) ?_ (fun k ⟨hk,hq,hs⟩=>?_))|(show Exists _; refine Exists.intro (k + 1) ⟨?_,?_,wK,(q1Q J),(q2Q J J)⟩))
 all_goals (try (((simp_all [cq,aP,cC,av,List.drop_eq_nil_of_le]) <;> exact wL); done))
theorem Cb(ds : List Dim)(ats : List Attr)(l : List Cell)(xs ys : List (List D))(hd : l.Pairwise bG)(h1 : ds.length≤1048576)(h2 : ats.length≤1048576)(h3 : ∀ c∈l,fw c)(hl : l.length≤4096)(hx : xs = ds.map al)(hy : ys = l.map af) : CallA Tryz.prog 101 [.one (.d (.sl 3 32 xs)),.one (.d (ai ats)),.one (.d (.sl 2 48 ys))] [] (.tup [(true,[.d (aj ds),.d (ai ats),.d (ak (bp l))]),(false,[.d (.int .i64 0)])]) []:=by
 subst hx; subst hy; exact Cc ds ats l hd h1 h2 h3 hl
theorem zm{a b : Arr}(h : Mrg a b) : ∀ c∈a.cells ++ b.cells.filter (dG a.cells),fw c:=by
 intro c hc
 have h1:=h.oka.dims.2.1
 have h2:=h.okb.dims.2.1
 have h3:=(bg h.oka.sch).2.2.1
 have h4:=(bg h.okb.sch).2.2.1
 unfold fw
 rcases List.mem_append.1 hc with hc | hc
 ·have e:=cellF_ok.1 (h.oka.cel _ hc)
  omega
 ·have e:=cellF_ok.1 (h.okb.cel _ (List.mem_filter.1 hc).1)
  omega
theorem rX{l : List Cell}{c : Cell}(hs : l.Pairwise ltC) : dG l c = !fx l c.at':=by
 rw [Bool.eq_iff_iff,newC_iff,Bool.not_eq_true',← Bool.not_eq_true,rY hs]
 exact Iff.rfl
theorem xw(a b : Arr) :
  ((bz a.dims a.attrs a.cells != 0) = true∧eU a b = (none,2)) ∨
  ((bz a.dims a.attrs a.cells != 0) = false∧(bz b.dims b.attrs b.cells != 0) = true∧eU a b = (none,2)) ∨
  ((bz a.dims a.attrs a.cells != 0) = false∧(bz b.dims b.attrs b.cells != 0) = false∧(!cq a.dims b.dims) = true∧eU a b = (none,13)) ∨
  ((bz a.dims a.attrs a.cells != 0) = false∧(bz b.dims b.attrs b.cells != 0) = false∧(!cq a.dims b.dims) = false∧(!aP b8 a.attrs b.attrs) = true∧eU a b = (none,12)) ∨
  ((bz a.dims a.attrs a.cells != 0) = false∧(bz b.dims b.attrs b.cells != 0) = false∧(!cq a.dims b.dims) = false∧(!aP b8 a.attrs b.attrs) = false∧Mrg a b):=by
 rcases xx a b with ⟨h1,hc⟩ | ⟨h1,h2,hc⟩ | ⟨h1,h2,hc⟩
 ·exact .inl ⟨h1,by unfold eU; rw [if_pos hc]⟩
 ·exact .inr (.inl ⟨h1,h2,by unfold eU; rw [if_pos hc]⟩)
 have ha : OkA a.dims a.attrs a.cells:=okA (by simpa using h1)
 have hb : OkA b.dims b.attrs b.cells:=okA (by simpa using h2)
 cases h3 : cq a.dims b.dims
 ·exact .inr (.inr (.inl ⟨h1,h2,rfl,by unfold eU; rw [if_neg hc,if_pos (by simp [h3])]⟩))
 cases h4 : aP b8 a.attrs b.attrs
 ·exact .inr (.inr (.inr (.inl ⟨h1,h2,rfl,rfl,by unfold eU; rw [if_neg hc,if_neg (by simp [h3]),if_pos (by simp [h4])]⟩)))
 ·exact .inr (.inr (.inr (.inr ⟨h1,h2,rfl,rfl,ha,hb,alike_iff.1 h3,(c9 fS).1 h4⟩)))
set_option maxHeartbeats 4000000 in
theorem c58(a b : Arr)(hcl : a.cells.length + b.cells.length≤4096) : CallA Tryz.prog 58 [aO a,aO b] [] (er (eU a b)) []:=by
 unfold aO
 refine enter ag Tryz.func58 rfl (by decide +kernel) rfl fun hok w0 σ0 φ0 M=>?_
 clear hok
 rcases xw a b with ⟨hv,e⟩ | ⟨hv,hv2,e⟩ | ⟨hv,hv2,hb1,e⟩ | ⟨hv,hv2,hb1,hb2,e⟩ | ⟨hv,hv2,hb1,hb2,hM⟩
 ·rw [e]
  repeat' (first|(refine h1H ?_; (refine h0H ?_; refine ab J J J J J J J J (c89 _ _ _) J ?_))|refine wG ?_)
  all_goals rfl
 ·rw [e]
  repeat' (first|(refine h1H ?_; (refine h0H ?_; refine ab J J J J J J J J (c89 _ _ _) J ?_))|refine wG ?_)
  all_goals rfl
 ·rw [e]
  repeat' (first|(refine h1H ?_; (refine h0H ?_; first|refine ab J J J J J J J J (c89 _ _ _) J ?_|refine ab J J J J J J J J (k0 _ _) J ?_))|refine wG ?_)
  all_goals rfl
 ·rw [e]
  repeat' (first|(refine h1H ?_; (refine h0H ?_; first|refine ab J J J J J J J J (c89 _ _ _) J ?_|refine ab J J J J J J J J (k0 _ _) J ?_|refine ab J J J J J J J J (q7 _ _) J ?_))|refine wG ?_)
  all_goals rfl
 rw [wo hM hcl]
 have ha:=hM.oka
 have hlen:=hM.len
 have hd4:=hM.oka.dims.2.1
 have ha6:=(bg ha.sch).2.2.1
 have hyD : (a.dims.map al).length≤100000:=by rw [List.length_map]; omega
 have hyC : (a.cells.map af).length≤100000:=by rw [List.length_map]; omega
 have hh1 : (cP a.dims b.dims).length≤1048576:=by rw [eA hM]; omega
 have hh2 : a.attrs.length≤1048576:=by omega
 have hfl : (a.cells ++ b.cells.filter (dG a.cells)).length≤4096:=by
  have:=List.length_filter_le (dG a.cells) b.cells
  rw [List.length_append]; omega
 repeat' (first|(refine h1H ?_; (refine h0H ?_; first|refine iG ag J J J J J J J J J J J J J (Nat.zero_le _) hyD (Nat.le_of_ble_eq_true J) ?_|refine iG ag J J J J J J J J J J J J J (Nat.zero_le _) hyC (Nat.le_of_ble_eq_true J) ?_|refine jP 70 [3,4] J J J J J J J J J (Cb (cP a.dims b.dims) a.attrs (a.cells ++ b.cells.filter (dG a.cells)) _ _ (pd hM) hh1 hh2 (zm hM) hfl (by rw [List.take_of_length_le (by rw [hln,List.length_map]; omega),hr,show p.1 = a.dims.length from wB,tN hlen]) (by rw [List.take_of_length_le (by omega),hr4,List.take_of_length_le wB])) J J J ?_|refine ab J J J J J J J J (c89 _ _ _) J ?_|refine ab J J J J J J J J (k0 _ _) J ?_|refine ab J J J J J J J J (q7 _ _) J ?_))|(refine h3H ?_; (refine h7H ?_; (fail_if_success (have:=hfo)); by_cases hfo : fx a.cells (at_ b.cells (r.1 : Int).toNat).at' = true))|(refine h3H ?_; (refine h2H ?_; first|refine d_l J J (bw J J J J J J (EK a.cells _ ha.srt hfo) J) ?_|refine d_l J J (bw J J J J J J (EL a.cells _ ha.srt hfo) J) ?_))|refine wG ?_|(refine h5H ?_; first|refine ao J (fun h=>?_) (fun h=>?_)|refine dJ 9 J [(2,_),(3,_),(4,_),(6,_)] (q4Q J J J J) (fun (p : Nat×List (List D))=>[(7,.one (.d (.int .i64 (p.1 : Int))))]) (fun (p : Nat×List (List D))=>[(3,.row 3 32 p.2),(2,.box [.d .nil,.d .nil,.d .nil]),(0,.box [.d (aj a.dims),.d (ai a.attrs),.d (ak a.cells)]),(1,.box [.d (aj b.dims),.d (ai b.attrs),.d (ak b.cells)])]) (fun (p : Nat×List (List D))=>p.1≤a.dims.length∧p.2.length = a.dims.length∧p.2 = (dP a.dims b.dims p.1).map al) (fun (p : Nat×List (List D))=>a.dims.length - p.1) (0,List.take 0 [] ++ a.dims.map al) (q1Q J) wK ?_ (fun p ⟨hk,hln,hr⟩=>?_)|refine dJ 15 J [(2,_),(3,_),(4,_),(6,_)] (q4Q J J J J) (fun (r : Nat×Nat×List (List D))=>[(8,.one (.own 4 r.2.1)),(9,.one (.d (.int .i64 (r.1 : Int))))]) (fun (r : Nat×Nat×List (List D))=>[(4,.row 2 48 r.2.2),(3,.row 3 32 p.2),(2,.box [.d .nil,.d .nil,.d .nil]),(0,.box [.d (aj a.dims),.d (ai a.attrs),.d (ak a.cells)]),(1,.box [.d (aj b.dims),.d (ai b.attrs),.d (ak b.cells)])]) (fun (r : Nat×Nat×List (List D))=>r.1≤b.cells.length∧r.2.1 = r.2.2.length∧r.2.1≤a.cells.length + r.1∧r.2.2 = (a.cells ++ (b.cells.take r.1).filter (dG a.cells)).map af) (fun (r : Nat×Nat×List (List D))=>b.cells.length - r.1) (0,0 + (a.cells.map af).length,List.take 0 [] ++ a.cells.map af) (q2Q J J) wK ?_ (fun r ⟨hr1,hr2,hr3,hr4⟩=>?_))|(show Exists _; first|refine Exists.intro ((r.1 + 1,r.2.1 + 1,r.2.2.take r.2.1 ++ [af (at_ b.cells r.1)])) ⟨?_,?_,wK,(q2Q J J),(q4Q J J J J)⟩|refine Exists.intro ((r.1 + 1,r.2)) ⟨?_,?_,wK,(q2Q J J),(q4Q J J J J)⟩|refine Exists.intro ((p.1 + 1,(p.2.set p.1 [.str (at_ (dP a.dims b.dims p.1) p.1).name,.int .i64 (min (at_ (dP a.dims b.dims p.1) p.1).lo (at_ b.dims p.1).lo),.int .i64 (at_ (dP a.dims b.dims p.1) p.1).hi]).set p.1 [.str (at_ (dP a.dims b.dims p.1) p.1).name,.int .i64 (min (at_ (dP a.dims b.dims p.1) p.1).lo (at_ b.dims p.1).lo),.int .i64 (max (at_ (dP a.dims b.dims p.1) p.1).hi (at_ b.dims p.1).hi)])) ⟨?_,?_,wK,(q1Q J),(q4Q J J J J)⟩))
 all_goals first
  | exact ⟨Nat.zero_le _,by simp,by show List.take 0 [] ++ a.dims.map al = _; rw [rZ]; rfl⟩
  | exact ⟨Nat.zero_le _,by simp,by simp,by simp⟩
  | (have hlt : p.1 < a.dims.length:=by simpa using ‹decide ((p.1 : Int) < ((0 + (a.dims.map al).length : Nat) : Int)) = true›
     refine ⟨hlt,by simp [hln],?_⟩
     show ((p.2.set p.1 _).set p.1 _) = _
     have em : at_ (dP a.dims b.dims p.1) p.1 = at_ a.dims p.1:=by rw [jQ (by omega),if_neg (Nat.lt_irrefl _)]
     rw [em,hr]
     exact r4 (by omega) _)
  | (have hlt : p.1 < a.dims.length:=by simpa using ‹decide ((p.1 : Int) < ((0 + (a.dims.map al).length : Nat) : Int)) = true›
     show a.dims.length - (p.1 + 1) < a.dims.length - p.1
     omega)
  | (have hlt : r.1 < b.cells.length:=by simpa using ‹decide ((r.1 : Int) < ((b.cells.map af).length : Int)) = true›
     show b.cells.length - (r.1 + 1) < b.cells.length - r.1
     omega)
  | (have hlt : r.1 < b.cells.length:=by simpa using ‹decide ((r.1 : Int) < ((b.cells.map af).length : Int)) = true›
     have hnw : dG a.cells (at_ b.cells r.1) = false:=by rw [rX ha.srt]; simpa using hfo
     refine ⟨hlt,hr2,by show r.2.1≤a.cells.length + (r.1 + 1); omega,?_⟩
     show r.2.2 = List.map af (a.cells ++ List.filter (dG a.cells) (b.cells.take (r.1 + 1)))
     rw [iV hlt,if_neg (by simp [hnw]),List.append_nil]
     exact hr4)
  | (have hlt : r.1 < b.cells.length:=by simpa using ‹decide ((r.1 : Int) < ((b.cells.map af).length : Int)) = true›
     have hnw : dG a.cells (at_ b.cells r.1) = true:=by rw [rX ha.srt]; simpa using hfo
     refine ⟨hlt,?_,by show r.2.1 + 1≤a.cells.length + (r.1 + 1); omega,?_⟩
     ·show r.2.1 + 1 = (r.2.2.take r.2.1 ++ [_]).length
      rw [List.length_append,List.length_take]; simp [hr2]
     ·show r.2.2.take r.2.1 ++ [_] = List.map af (a.cells ++ List.filter (dG a.cells) (b.cells.take (r.1 + 1)))
      rw [List.take_of_length_le (by omega),hr4,iV hlt,if_pos hnw,← List.append_assoc]
      simp only [List.map_append,List.map_cons,List.map_nil])
  | rfl
  | skip
end Go.Proofs.YtpejdgkaapnekaaGreat
