import Derived.Test.YtpejdgkaapnekaaGreatJP21
import Derived.Test.YtpejdgkaapnekaaGreatJP20
import Derived.Test.YtpejdgkaapnekaaGreatJP17
import Derived.Test.YtpejdgkaapnekaaGreatJP18
import Derived.Test.YtpejdgkaapnekaaGreatJP16
import Derived.Test.YtpejdgkaapnekaaGreatJP19
set_option linter.unusedVariables false
set_option linter.unusedSimpArgs false
set_option maxHeartbeats 1000000
namespace Go.Proofs.YtpejdgkaapnekaaGreat
open Go Go.Abs
attribute [local irreducible] aa OkC aq aC ax aS
set_option maxRecDepth 10000
theorem Ie(x : Cell)(ha : x.at'.length≤1048576)(hv : x.vals.length≤1048576) : CallA Tryz.prog 95 [.agg [.d (aF x.at'),.d (bM x.vals)]] [] (.agg [.own 10 x.at'.length,.d (bM x.vals)]) [(10,.row 1 8 (x.at'.map aB))]:=by
 refine enter ag Tryz.func95 rfl (by decide +kernel) rfl fun hok w0 σ0 φ0 M=>?_
 clear hok
 repeat' (first|(refine h5H ?_; refine bm (br (dl:=[11]) J) (bV ?_))|(refine h3H ?_; (refine h2H ?_; first|refine dB envOk 10 J J J (fA J J J J J J J J (by simp only [List.length_map,Nat.zero_add]; omega) (by simp only [List.length_map,Nat.zero_add]; omega)) J J ?_|refine dB envOk 11 J J J (fA J J J J J J J J (by simp only [List.length_map,Nat.zero_add]; omega) (by simp only [List.length_map,Nat.zero_add]; omega)) J J ?_))|refine wG ?_)
 all_goals
  show AV.agg [.own 10 (0 + (List.map aB x.at').length),.d (.sl 4 40 ((List.take 0 [] ++ List.map aQ x.vals).take (0 + (List.map aQ x.vals).length)))] = _
  simp [bM,kp]
theorem DE{a b : List Dim}{k i : Nat}(hl : a.length = b.length)(hs : aP cL (a.set k (at_ b k)) b = true)(hi : i < a.length)(hk : i≠k) : at_ a i = at_ b i:=by
 have h:=congrArg (fun l=>at_ l i) ((c9 fG).1 hs)
 rw [jh hi,if_neg hk] at h
 exact h
theorem B9{a b : List Dim}{k : Nat}(hl : a.length = b.length)(h : ∀ j,j < a.length→j≠k→at_ a j = at_ b j) : aP cL (a.set k (at_ b k)) b = true:=by
 rw [c9 fG]
 refine dN (by simpa using hl) fun i hi=>?_
 have hi' : i < a.length:=by simpa using hi
 rw [jh hi']
 by_cases e : i = k
 ·rw [if_pos e,e]
 ·rw [if_neg e]; exact h i hi' e
theorem DF{a b : List Dim}{k i : Nat}(hl : a.length = b.length)(h : ∀ j,j < i→j≠k→at_ a j = at_ b j)(hd : decide ((i : Int) < ((a.map al).length : Int)) = false)(hs : aP cL (a.set k (at_ b k)) b = false) : False:=by
 have h2:=B9 hl fun j hj hne=>h j (by simp at hd; omega) hne
 rw [hs] at h2; cases h2
theorem gJ{a : List Dim}{i : Nat}(hd : decide ((i : Int) < ((a.map al).length : Int)) = true) : i + 1≤a.length:=by simp at hd; omega
theorem mQ{a : List Dim}{i : Nat}(hd : decide ((i : Int) < ((a.map al).length : Int)) = true) : a.length - (i + 1) < a.length - i:=by simp at hd; omega
theorem mR{x y : Dim}{k i : Nat}(h : (bX [.str x.name,.int .i64 x.lo,.int .i64 x.hi] [.str y.name,.int .i64 y.lo,.int .i64 y.hi] == false) = false) : i≠k→x = y:=fun _=>(fG x y).1 (by simpa [cL,al] using h)
theorem qW{x y : Dim}{k i : Nat}(h : ((i : Int) != (k : Int)) = !true) : i≠k→x = y:=fun e=>by simp at h; omega
theorem eS{a b : List Dim}{k i : Nat}(h : ∀ j,j < i→j≠k→at_ a j = at_ b j)(hi : i≠k→at_ a (i : Int).toNat = at_ b (i : Int).toNat) : ∀ j,j < i + 1→j≠k→at_ a j = at_ b j:=fun j hj hne=>by
 by_cases e : j = i
 ·subst e; exact hi hne
 ·exact h j (by omega) hne
theorem pU{a b : List Dim}{k i : Nat}(h : ∀ i,i < a.length→i≠k→at_ a i = at_ b i)(hd : decide ((i : Int) < ((a.map al).length : Int)) = true)(hk : ((i : Int) != (k : Int)) = true)
  (hx : (bX [.str (at_ a (i : Int).toNat).name,.int .i64 (at_ a (i : Int).toNat).lo,.int .i64 (at_ a (i : Int).toNat).hi] [.str (at_ b (i : Int).toNat).name,.int .i64 (at_ b (i : Int).toNat).lo,.int .i64 (at_ b (i : Int).toNat).hi] == false) = true) : False:=by
 have e:=h i (by simp at hd; omega) (by simp at hk; omega)
 have e2 : at_ a (i : Int).toNat = at_ b (i : Int).toNat:=e
 rw [e2] at hx
 have:=(fG (at_ b (i : Int).toNat) _).2 rfl
 simp only [cL,al] at this
 rw [this] at hx
 cases hx
set_option maxHeartbeats 4000000 in
theorem c53(a b : Arr)(name : List UInt8)(hfew : a.cells.length + b.cells.length≤4096) : CallA Tryz.prog 53 [aO a,aO b,.one (.d (.str name))] [] (er (dR a b name)) []:=by
 unfold aO
 refine enter ag Tryz.func53 rfl (by decide +kernel) rfl fun hok w0 σ0 φ0 M=>?_
 clear hok
 rcases xx a b with ⟨h1,hc⟩ | ⟨h1,h2,hc⟩ | ⟨h1,h2,hc⟩
 ·unfold bZ at hc
  rw [show dR a b name = (none,2) by unfold dR; rw [if_pos hc]]
  repeat' (first|(refine h1H ?_; (refine h0H ?_; refine ab J J J J J J J J (c89 _ _ _) J ?_))|refine wG ?_)
  all_goals rfl
 ·unfold bZ at hc
  rw [show dR a b name = (none,2) by unfold dR; rw [if_pos hc]]
  repeat' (first|(refine h1H ?_; (refine h0H ?_; refine ab J J J J J J J J (c89 _ _ _) J ?_))|refine wG ?_)
  all_goals rfl
 unfold bZ at hc
 have hA : OkA a.dims a.attrs a.cells:=okA (by simpa using h1)
 have hB : OkA b.dims b.attrs b.cells:=okA (by simpa using h2)
 have ha4:=hA.dims.2.1
 by_cases hd : bk a.dims name < 0
 ·have hb0 : decide (aD (fun a : Dim=>a.name == name) a.dims 0 < 0) = true:=by simpa [bk] using hd
  rw [show dR a b name = (none,11) by unfold dR; rw [if_neg hc,if_pos hd]]
  repeat' (first|(refine h1H ?_; (refine h0H ?_; first|refine ab J J J J J J J J (c89 _ _ _) J ?_|refine ab J J J J J J J J (ml _ _) J ?_))|refine wG ?_)
  all_goals rfl
 obtain ⟨k,hk,hk2,hk3,hk4⟩:=iF hd
 have hb0 : decide (((k : Nat) : Int) < 0) = false:=by simp
 by_cases hal : cq a.dims b.dims = true
 rotate_left
 ·have hb1 : (!cq a.dims b.dims) = true:=by simpa using hal
  rw [show dR a b name = (none,13) by unfold dR; rw [if_neg hc,if_neg hd,if_pos hb1]]
  repeat' (first|(refine h1H ?_; (refine h0H ?_; first|refine ab J J J J J J J J (c89 _ _ _) J ?_|refine ab J J J J J J J J (mr _ _ k hk) J ?_|refine ab J J J J J J J J (k0 _ _) J ?_))|refine wG ?_)
  all_goals rfl
 have hb1 : (!cq a.dims b.dims) = false:=by simpa using hal
 have hlen : a.dims.length = b.dims.length:=(sameF_all.1 hal).1
 have hkb : k < b.dims.length:=by omega
 have hcat : dR a b name = if !aP cL (a.dims.set k (at_ b.dims k)) b.dims∨(at_ a.dims k).hi = 1073741825∨(at_ b.dims k).hi = 1073741825 then (none,13)
   else if !aP b8 a.attrs b.attrs then (none,12)
   else if 1073741824 < (bW a b k).hi then (none,3)
   else dx (a.dims.set k (bW a b k)) a.attrs (a.cells ++ b.cells.map (bR k (byF a b k))):=by
  unfold dR
  rw [if_neg hc,if_neg hd,if_neg (by simpa using hal),hk,Int.toNat_natCast]
 by_cases hs2 : (at_ a.dims k).hi = 1073741825
 ·have hb3 : ((at_ a.dims ((k : Nat) : Int).toNat).hi == 1073741825) = true:=by simpa using hs2
  rw [hcat,if_pos (.inr (.inl hs2))]
  repeat' (first|(refine h1H ?_; (refine h0H ?_; first|refine ab J J J J J J J J (c89 _ _ _) J ?_|refine ab J J J J J J J J (mr _ _ k hk) J ?_|refine ab J J J J J J J J (k0 _ _) J ?_))|refine wG ?_)
  all_goals rfl
 have hb3 : ((at_ a.dims ((k : Nat) : Int).toNat).hi == 1073741825) = false:=by simpa using hs2
 by_cases hs3 : (at_ b.dims k).hi = 1073741825
 ·have hb4 : ((at_ b.dims ((k : Nat) : Int).toNat).hi == 1073741825) = true:=by simpa using hs3
  rw [hcat,if_pos (.inr (.inr hs3))]
  repeat' (first|(refine h1H ?_; (refine h0H ?_; first|refine ab J J J J J J J J (c89 _ _ _) J ?_|refine ab J J J J J J J J (mr _ _ k hk) J ?_|refine ab J J J J J J J J (k0 _ _) J ?_))|refine wG ?_)
  all_goals rfl
 have hb4 : ((at_ b.dims ((k : Nat) : Int).toNat).hi == 1073741825) = false:=by simpa using hs3
 cases hs1 : aP cL (a.dims.set k (at_ b.dims k)) b.dims
 ·rw [hcat,if_pos (.inl (by simp [hs1]))]
  repeat' (first|(refine h1H ?_; (refine h0H ?_; first|refine ab J J J J J J J J (c89 _ _ _) J ?_|refine ab J J J J J J J J (mr _ _ k hk) J ?_|refine ab J J J J J J J J (k0 _ _) J ?_))|(refine h5H ?_; (show OkC _ _ (Code.region 13 _ _) _ _; exact (DF hlen hs (by assumption) hs1).elim))|refine wG ?_|(refine h5H ?_; first|refine ao J (fun h=>?_) (fun h=>?_)|refine bc 9 J [(3,_),(4,_),(6,_),(8,_)] (q4Q J J J J) (fun (i : Nat)=>[(9,.one (.d (.int .i64 i)))]) (fun (i : Nat)=>i≤a.dims.length∧(∀ j,j < i→j≠k→at_ a.dims j = at_ b.dims j)) (fun (i : Nat)=>a.dims.length - i) 0 (q1Q J) ?_ (fun i ⟨hi,hs⟩=>?_))|(refine h3H ?_; (refine ni ?_; refine gC J J (fun h=>?_) (fun h=>?_)))|(show Exists _; refine Exists.intro (i + 1) ⟨?_,?_,wK,(q1Q J),(q4Q J J J J)⟩))
  all_goals first
   | rfl
   | exact ⟨Nat.zero_le _,fun j hj=>absurd hj (Nat.not_lt_zero j)⟩
   | exact ⟨(gJ (by assumption)),eS hs (mR (by assumption))⟩
   | exact ⟨(gJ (by assumption)),eS hs (qW (by assumption))⟩
   | exact mQ (by assumption)
   | skip
 have hke : ∀ i,i < a.dims.length→i≠k→at_ a.dims i = at_ b.dims i:=fun i hi hne=>DE hlen hs1 hi hne
 rw [if_neg (by simp [hs1,hs2,hs3])] at hcat
 by_cases hat : aP b8 a.attrs b.attrs = true
 rotate_left
 ·have hb5 : (!aP b8 a.attrs b.attrs) = true:=by simp [hat]
  rw [if_pos hb5] at hcat
  rw [hcat]
  repeat' (first|(refine h1H ?_; (refine h0H ?_; first|refine ab J J J J J J J J (c89 _ _ _) J ?_|refine ab J J J J J J J J (mr _ _ k hk) J ?_|refine ab J J J J J J J J (k0 _ _) J ?_|refine ab J J J J J J J J (q7 _ _) J ?_))|(refine h5H ?_; (show OkC _ _ (Code.region 12 _ _) _ _; exact (pU hke (by assumption) (by assumption) (by assumption)).elim))|refine wG ?_|(refine h5H ?_; first|refine ao J (fun h=>?_) (fun h=>?_)|refine bc 9 J [(3,_),(4,_),(6,_),(8,_)] (q4Q J J J J) (fun (i : Nat)=>[(9,.one (.d (.int .i64 i)))]) (fun (i : Nat)=>i≤a.dims.length∧(∀ j,j < i→j≠k→at_ a.dims j = at_ b.dims j)) (fun (i : Nat)=>a.dims.length - i) 0 (q1Q J) ?_ (fun i ⟨hi,hs⟩=>?_))|(refine h3H ?_; (refine ni ?_; refine gC J J (fun h=>?_) (fun h=>?_)))|(show Exists _; refine Exists.intro (i + 1) ⟨?_,?_,wK,(q1Q J),(q4Q J J J J)⟩))
  all_goals first
   | rfl
   | exact ⟨Nat.zero_le _,fun j hj=>absurd hj (Nat.not_lt_zero j)⟩
   | exact ⟨(gJ (by assumption)),eS hs (mR (by assumption))⟩
   | exact ⟨(gJ (by assumption)),eS hs (qW (by assumption))⟩
   | exact mQ (by assumption)
   | skip
 have hb5 : (!aP b8 a.attrs b.attrs) = false:=by simp [hat]
 rw [if_neg (by simp [hat])] at hcat
 have ba : -1073741824≤(at_ a.dims ((k : Nat) : Int).toNat).lo∧(at_ a.dims ((k : Nat) : Int).toNat).lo≤1073741824∧(at_ a.dims ((k : Nat) : Int).toNat).lo≤(at_ a.dims ((k : Nat) : Int).toNat).hi∧(at_ a.dims ((k : Nat) : Int).toNat).hi≤1073741825:=(hA.dims.2.2.1 k hk2).1
 have bb : -1073741824≤(at_ b.dims ((k : Nat) : Int).toNat).lo∧(at_ b.dims ((k : Nat) : Int).toNat).lo≤1073741824∧(at_ b.dims ((k : Nat) : Int).toNat).lo≤(at_ b.dims ((k : Nat) : Int).toNat).hi∧(at_ b.dims ((k : Nat) : Int).toNat).hi≤1073741825:=(hB.dims.2.2.1 k hkb).1
 have hrw : ((k : Nat) : Int).toNat < (List.take 0 ([] : List (List D)) ++ a.dims.map al).length:=by simp; exact hk2
 by_cases hmx : 1073741824 < (at_ b.dims k).hi + ((at_ a.dims k).hi - (at_ b.dims k).lo + 1)
 ·have hb6 : decide (1073741824 < (at_ b.dims ((k : Nat) : Int).toNat).hi + ((at_ a.dims ((k : Nat) : Int).toNat).hi - (at_ b.dims ((k : Nat) : Int).toNat).lo + 1)) = true:=by simpa using hmx
  rw [if_pos (by unfold bW byF; exact hmx)] at hcat
  rw [hcat]
  repeat' (first|(refine h1H ?_; (refine B2 ?_; refine s_e envOk J J J (cW J J J J (iH hrw) J) ?_))|(refine h1H ?_; (refine h0H ?_; first|refine ab J J J J J J J J (c89 _ _ _) J ?_|refine ab J J J J J J J J (mr _ _ k hk) J ?_|refine ab J J J J J J J J (k0 _ _) J ?_|refine ab J J J J J J J J (q7 _ _) J ?_))|(refine h5H ?_; (show OkC _ _ (Code.region 12 _ _) _ _; exact (pU hke (by assumption) (by assumption) (by assumption)).elim))|refine wG ?_|(refine h5H ?_; first|refine ao J (fun h=>?_) (fun h=>?_)|refine bc 9 J [(3,_),(4,_),(6,_),(8,_)] (q4Q J J J J) (fun (i : Nat)=>[(9,.one (.d (.int .i64 i)))]) (fun (i : Nat)=>i≤a.dims.length∧(∀ j,j < i→j≠k→at_ a.dims j = at_ b.dims j)) (fun (i : Nat)=>a.dims.length - i) 0 (q1Q J) ?_ (fun i ⟨hi,hs⟩=>?_))|(refine h3H ?_; (refine ni ?_; refine gC J J (fun h=>?_) (fun h=>?_)))|(show Exists _; refine Exists.intro (i + 1) ⟨?_,?_,wK,(q1Q J),(q4Q J J J J)⟩))
  all_goals first
   | rfl
   | exact ⟨Nat.zero_le _,fun j hj=>absurd hj (Nat.not_lt_zero j)⟩
   | exact ⟨(gJ (by assumption)),eS hs (mR (by assumption))⟩
   | exact ⟨(gJ (by assumption)),eS hs (qW (by assumption))⟩
   | exact mQ (by assumption)
   | skip
 have hb6 : decide (1073741824 < (at_ b.dims ((k : Nat) : Int).toNat).hi + ((at_ a.dims ((k : Nat) : Int).toNat).hi - (at_ b.dims ((k : Nat) : Int).toNat).lo + 1)) = false:=by simpa using hmx
 rw [if_neg (by unfold bW byF; exact hmx)] at hcat
 have hset:=(c9 fG).1 hs1
 have hC : Cat a b name k:=⟨hA,hB,hk2,hk3,hk4,hlen,fun i hi=>by simpa using (sameF_all.1 hal).2 i hi,hke,by have:=(hA.dims.2.2.1 k hk2).1; omega,by have:=(hB.dims.2.2.1 k hkb).1; omega,(c9 fS).1 hat,by unfold bW byF; dsimp only; omega⟩
 have hll : (a.cells ++ b.cells.map (bR k (byF a b k))).length≤4096:=by rw [List.length_append,List.length_map]; exact hfew
 have hres : dR a b name = (some ⟨a.dims.set k (bW a b k),a.attrs,bp (a.cells ++ b.cells.map (bR k (byF a b k)))⟩,0):=by
  rw [hcat]; unfold dx; rw [if_neg (by omega)]
 rw [hres]
 have hnm : (at_ a.dims k).name = (at_ b.dims k).name:=by simpa using (sameF_all.1 hal).2 k hk2
 have hbl : ∀ i,i < b.cells.length→(at_ b.cells i).at'.length = a.dims.length:=fun i hi=>(hC.bcell (aX hi)).1
 have hbk : ∀ i,i < b.cells.length→((k : Nat) : Int) < ((at_ b.cells i).at'.length : Int):=fun i hi=>by rw [hbl i hi]; omega
 have hbk2 : ∀ i,i < b.cells.length→((k : Nat) : Int).toNat < (at_ b.cells i).at'.length:=fun i hi=>by rw [hbl i hi]; omega
 have hB6:=(bg hB.sch).2.2.1
 have hA6:=(bg hA.sch).2.2.1
 have hsmb : ∀ i,i < b.cells.length→(at_ b.cells i).at'.length≤1048576∧(at_ b.cells i).vals.length≤1048576:=fun i hi=>by
  have:=cellF_ok.1 (hB.cel _ (aX hi))
  rw [hbl i hi,this.2.1]; omega
 have had : ∀ i,i < b.cells.length→IntKind.i64.wrap (at_ (at_ b.cells i).at' ((k : Nat) : Int).toNat + ((at_ a.dims ((k : Nat) : Int).toNat).hi - (at_ b.dims ((k : Nat) : Int).toNat).lo + 1)) = at_ (at_ b.cells i).at' ((k : Nat) : Int).toNat + ((at_ a.dims ((k : Nat) : Int).toNat).hi - (at_ b.dims ((k : Nat) : Int).toNat).lo + 1):=fun i hi=>by
  have h:=(hC.bcell (aX hi)).2.2.2 k hk2
  rw [fH hC.hb] at h
  have hda:=(hA.dims.2.2.1 k hk2).1
  have hdb:=(hB.dims.2.2.1 k hkb).1
  refine ic ?_ ?_ <;> (simp only [Int.toNat_natCast]; omega)
 have hX : List.take (0 + (a.dims.map al).length) ((List.take 0 ([] : List (List D)) ++ a.dims.map al).set k [.str (at_ a.dims k).name,.int .i64 (at_ a.dims k).lo,.int .i64 ((at_ b.dims k).hi + ((at_ a.dims k).hi - (at_ b.dims k).lo + 1))]) = (a.dims.set k (bW a b k)).map al:=by
  rw [hnm]
  exact cT (x:=bW a b k) (by simp)
 have hsm : ∀ c∈a.cells ++ b.cells.map (bR k (byF a b k)),fw c:=fun c hc=>by
  unfold fw
  rcases List.mem_append.1 hc with hc | hc
  ·have e:=cellF_ok.1 (hA.cel _ hc); omega
  ·obtain ⟨d,hd,rfl⟩:=List.mem_map.1 hc
   have e:=cellF_ok.1 (hB.cel _ hd)
   have e2 : (bR k (byF a b k) d).at'.length = d.at'.length:=by simp [bR,rz]
   have e3 : (bR k (byF a b k) d).vals = d.vals:=rfl
   rw [e2,e3]; omega
 have hd1 : (a.dims.set k (bW a b k)).length≤1048576:=by simp; omega
 have hd2 : a.attrs.length≤1048576:=by omega
 repeat' (first|(refine h1H ?_; (refine B2 ?_; refine s_e envOk J J J (cW J J J J (iH hrw) J) ?_))|(refine h1H ?_; (refine h0H ?_; first|refine dw 40 [] (rav':=.agg [.own 50 (at_ b.cells q.1).at'.length,.d (bM (at_ b.cells q.1).vals)]) (Ie (at_ b.cells q.1) (hsmb _ wB).1 (hsmb _ wB).2) J J J J J J trivial cb J J J J ?_|refine jP 70 [3,4] J J J J J J J J J (Cb (a.dims.set k (bW a b k)) a.attrs (a.cells ++ b.cells.map (bR k (byF a b k))) _ _ hC.diff hd1 hd2 hsm hll hX (by rw [List.take_of_length_le (by omega),hq4,List.take_of_length_le wB])) J J J ?_|refine ab J J J J J J J J (c89 _ _ _) J ?_|refine ab J J J J J J J J (mr _ _ k hk) J ?_|refine ab J J J J J J J J (k0 _ _) J ?_|refine ab J J J J J J J J (q7 _ _) J ?_))|(refine h5H ?_; (show OkC _ _ (Code.region 12 _ _) _ _; exact (pU hke (by assumption) (by assumption) (by assumption)).elim))|(refine h3H ?_; (refine h8H ?_; refine d_e envOk J J J (eH J J J J J J (Int.natCast_nonneg _) (hbk _ wB)) ?_))|(refine h3H ?_; (refine h9H ?_; refine d_e envOk J J J (cW J J J J (db (hbk2 _ wB)) J) ?_))|(refine h3H ?_; (refine A7 ?_; refine fQ envOk J J (b9 J J J J J J J J J (db (hbk2 _ wB)) J) ?_))|(refine h3H ?_; (refine Gc ?_; refine d_e envOk J J J (jn J J J J (had _ wB)) ?_))|refine wG ?_|(refine h5H ?_; first|refine ao J (fun h=>?_) (fun h=>?_)|refine bc 9 J [(3,_),(4,_),(6,_),(8,_)] (q4Q J J J J) (fun (i : Nat)=>[(9,.one (.d (.int .i64 i)))]) (fun (i : Nat)=>i≤a.dims.length∧(∀ j,j < i→j≠k→at_ a.dims j = at_ b.dims j)) (fun (i : Nat)=>a.dims.length - i) 0 (q1Q J) ?_ (fun i ⟨hi,hs⟩=>?_)|refine dJ 22 J [(3,_),(4,_),(6,_),(8,_),(10,_),(11,_)] (q6Q J J J J J J) (fun (q : Nat×Nat×List (List D))=>[(12,.one (.own 4 q.2.1)),(13,.one (.d (.int .i64 (q.1 : Int))))]) (fun (q : Nat×Nat×List (List D))=>[(4,.row 2 48 q.2.2),(3,.row 3 32 ((List.take 0 ([] : List (List D)) ++ a.dims.map al).set k [.str (at_ a.dims k).name,.int .i64 (at_ a.dims k).lo,.int .i64 ((at_ b.dims k).hi + ((at_ a.dims k).hi - (at_ b.dims k).lo + 1))])),(2,.box [.d .nil,.d .nil,.d .nil]),(0,.box [.d (aj a.dims),.d (ai a.attrs),.d (ak a.cells)]),(1,.box [.d (aj b.dims),.d (ai b.attrs),.d (ak b.cells)])]) (fun (q : Nat×Nat×List (List D))=>q.1≤b.cells.length∧q.2.1 = q.2.2.length∧q.2.1 = a.cells.length + q.1∧q.2.2 = (a.cells ++ (b.cells.take q.1).map (bR k (byF a b k))).map af) (fun (q : Nat×Nat×List (List D))=>b.cells.length - q.1) (0,0 + (a.cells.map af).length,List.take 0 [] ++ a.cells.map af) (q2Q J J) wK ?_ (fun q ⟨hq1,hq2,hq3,hq4⟩=>?_))|(refine h3H ?_; (refine ni ?_; refine gC J J (fun h=>?_) (fun h=>?_)))|(show Exists _; first|refine Exists.intro ((q.1 + 1,q.2.1 + 1,q.2.2.take q.2.1 ++ [[.sl 1 8 (List.take (at_ b.cells q.1).at'.length (((at_ b.cells q.1).at'.map aB).set k [.int .i64 (at_ (at_ b.cells q.1).at' k + ((at_ a.dims k).hi - (at_ b.dims k).lo + 1))])),bM (at_ b.cells q.1).vals]])) ⟨?_,?_,wK,(q2Q J J),(q6Q J J J J J J)⟩|refine Exists.intro (i + 1) ⟨?_,?_,wK,(q1Q J),(q4Q J J J J)⟩))
 all_goals first
  | rfl
  | exact ⟨Nat.zero_le _,fun j hj=>absurd hj (Nat.not_lt_zero j)⟩
  | exact ⟨(gJ (by assumption)),eS hs (mR (by assumption))⟩
  | exact ⟨(gJ (by assumption)),eS hs (qW (by assumption))⟩
  | exact mQ (by assumption)
  | exact ⟨Nat.zero_le _,by simp,by simp,by simp⟩
  | (have hlt : q.1 < b.cells.length:=by simpa using ‹decide ((q.1 : Int) < ((b.cells.map af).length : Int)) = true›
     show b.cells.length - (q.1 + 1) < b.cells.length - q.1
     omega)
  | (have hlt : q.1 < b.cells.length:=by simpa using ‹decide ((q.1 : Int) < ((b.cells.map af).length : Int)) = true›
     have e : [D.sl 1 8 (List.take (at_ b.cells q.1).at'.length (((at_ b.cells q.1).at'.map aB).set k [.int .i64 (at_ (at_ b.cells q.1).at' k + ((at_ a.dims k).hi - (at_ b.dims k).lo + 1))])),bM (at_ b.cells q.1).vals] = af (bR k (byF a b k) (at_ b.cells q.1)):=by
      rw [show List.take (at_ b.cells q.1).at'.length (((at_ b.cells q.1).at'.map aB).set k [.int .i64 (at_ (at_ b.cells q.1).at' k + ((at_ a.dims k).hi - (at_ b.dims k).lo + 1))]) = _ from cT (f:=aB) (x:=at_ (at_ b.cells q.1).at' k + ((at_ a.dims k).hi - (at_ b.dims k).lo + 1)) (Nat.le_refl _)]
      rfl
     refine ⟨hlt,?_,by show q.2.1 + 1 = a.cells.length + (q.1 + 1); omega,?_⟩
     ·show q.2.1 + 1 = (q.2.2.take q.2.1 ++ [_]).length
      rw [List.length_append,List.length_take]; simp [hq2]
     ·show q.2.2.take q.2.1 ++ [_] = List.map af (a.cells ++ List.map _ (List.take (q.1 + 1) b.cells))
      rw [List.take_of_length_le (by omega),hq4,e,ch hlt,List.map_append (f:=bR k (byF a b k)),← List.append_assoc,List.map_append (f:=af) (l₁:=a.cells ++ List.map (bR k (byF a b k)) (List.take q.1 b.cells))]
      rfl)
  | skip
theorem xV{P : Program}{f : FuncId}{args args' : List AV}{sto : Sto}{rav : AV}{rsto : Sto}(h : CallA P f args sto rav rsto)(hw : ∀ σ φ vs,All2 (RepV σ φ sto) args' vs→All2 (RepV σ φ sto) args vs) : CallA P f args' sto rav rsto :=
 ⟨h.fn,fun w σ φ vs hi ha=>h.run w σ φ vs hi (hw σ φ vs ha)⟩
theorem pC{σ : Sig}{φ : Pl}{sto : Sto}{k b : Nat}{v : Value}(h : RepC σ φ sto (.d .nil) v) : RepC σ φ sto (.d (.sl k b [])) v:=by
 have h1:=RepC.d_inv h
 cases h1
 exact .d (.sl (fun _ _=>undef) (by simp) (by simp) (by simp) (by simp) (by simp) (by simp))
theorem wI{σ : Sig}{φ : Pl}{sto : Sto}{v : Value}(h : RepV σ φ sto (.agg [.d .nil,.d .nil,.d .nil]) v) : RepV σ φ sto (pD ([],[],[])) v:=by
 obtain ⟨vs,rfl,h2⟩:=h
 match vs,h2 with
 | [x,y,z],h2=>exact ⟨_,rfl,pC h2.1,pC h2.2.1,pC h2.2.2.1,trivial⟩
 | [],h2=>exact h2.elim
 | [_],h2=>exact h2.2.elim
 | [_,_],h2=>exact h2.2.2.elim
 | _::_::_::_::_,h2=>exact h2.2.2.2.elim
theorem mz(x : List Dim×List Attr×List Cell) : qp x x = true:=by
 unfold qp
 rw [(c9 fG).2 rfl,(c9 fS).2 rfl,(c9 xW).2 rfl]
 rfl
theorem Gl(e : Int) : CallA Tryz.prog 25 [.agg [.d .nil,.d .nil,.d .nil],.one (.d (.int .i64 e)),.agg [.d .nil,.d .nil,.d .nil],.one (.d (.int .i64 e))] [] (.one (.d (.bool true))) []:=by
 have h:=c25 ([],[],[]) ([],[],[]) e e
 rw [mz,show (e == e && true) = true by simp] at h
 refine xV h fun σ φ vs hv=>?_
 match vs,hv with
 | [x,y,z,w],hv=>exact ⟨wI hv.1,hv.2.1,wI hv.2.2.1,hv.2.2.2⟩
 | [],hv=>exact hv.elim
 | [_],hv=>exact hv.2.elim
 | [_,_],hv=>exact hv.2.2.elim
 | [_,_,_],hv=>exact hv.2.2.2.elim
 | _::_::_::_::_::_,hv=>exact hv.2.2.2.2.elim
theorem D5(y : Arr) : CallA Tryz.prog 28 [aO y,aO y] [] (.one (.d (.bool true))) []:=by
 have h:=c28 (y.dims,y.attrs,y.cells) (y.dims,y.attrs,y.cells)
 rw [mz] at h
 exact h
theorem tl(l : List Attr)(hne : 0 < l.length) : CallA Tryz.prog 145 [.one (.d (ai l))] [] (.one (.own 0 l.length)) [(0,.row 2 24 (l.map aA))]:=by
 refine enter ag Tryz.func145 rfl (by decide +kernel) rfl fun hok w0 σ0 φ0 M=>?_
 have h1:=hok.1.sl; clear hok; simp only [List.length_map] at h1
 repeat' (first|(refine h1H ?_; (refine h6H ?_; refine cy ag J J J J J J (fun r hr=>?_)))|(refine h1H ?_; (refine h0H ?_; refine bO ag J J J J J (id:=0) J J J J J J J (by simp only [List.length_map,Nat.zero_add]; omega) (by simp only [List.length_map,Nat.zero_add]; omega) ?_))|refine wG ?_|(refine h5H ?_; refine ao J (fun h=>?_) (fun h=>?_)))
 ·have e:=hr (by simpa using h)
  simp only [List.map_eq_nil_iff] at e
  subst e; simp at hne
 ·simp
theorem Ev(a : Arr)(name : List UInt8) : CallA Tryz.prog 143 [.agg [.d (aj a.dims),.d (ai a.attrs),.d (ak a.cells)],.one (.d (.str name))] [] (.one (.d (.bool (iD a name)))) []:=by
 refine enter ag Tryz.func143 rfl (by decide +kernel) rfl fun hok w0 σ0 φ0 M=>?_
 clear hok
 repeat' (first|(refine h1H ?_; (refine h0H ?_; first|refine ab J J J J J J J J (xH _ _ _ _) J ?_|refine ab J J J J J J J J (FY _ _ _ _) J ?_))|refine wG ?_|(refine h1H ?_; (refine h4H ?_; refine bn J J J J (fun h=>?_) (fun h=>?_))))
 ·have e : iD a name = decide (0≤aD (fun x : Attr=>x.name == name) a.attrs 0):=by
   show (decide (0≤aD (fun x : Dim=>x.name == name) a.dims 0) || _) = _
   rw [h]; rfl
  rw [e]
 ·have e : iD a name = true:=by
   show (decide (0≤aD (fun x : Dim=>x.name == name) a.dims 0) || _) = _
   rw [h]; rfl
  rw [e]
theorem CL(ad bd : List Dim)(n : Nat)(h : inD ad (at_ bd n).name = true) : (ju ad bd (n + 1)).map aB = (ju ad bd n).map aB ++ [[.int .i64 (bk ad (at_ bd n).name)]]:=by
 unfold ju; rw [gz,if_pos h]; simp [aB]
theorem CM(ad bd : List Dim)(n : Nat)(h : inD ad (at_ bd n).name = true) : (jv ad bd (n + 1)).map aB = (jv ad bd n).map aB ++ [[.int .i64 (n : Int)]]:=by
 unfold jv; rw [gz,if_pos h]; simp [aB]
theorem CN(ad bd : List Dim)(n : Nat)(h : inD ad (at_ bd n).name = false) : (bA ad bd (n + 1)).map aB = (bA ad bd n).map aB ++ [[.int .i64 (n : Int)]]:=by
 unfold bA; rw [eR,if_neg (by simp [h])]; simp [aB]
theorem Be(ad bd : List Dim)(n : Nat)(h : inD ad (at_ bd n).name = false) : ju ad bd (n + 1) = ju ad bd n:=by
 unfold ju; rw [gz,if_neg (by simp [h])]
theorem Bf(ad bd : List Dim)(n : Nat)(h : inD ad (at_ bd n).name = false) : jv ad bd (n + 1) = jv ad bd n:=by
 unfold jv; rw [gz,if_neg (by simp [h])]
theorem Bg(ad bd : List Dim)(n : Nat)(h : inD ad (at_ bd n).name = true) : bA ad bd (n + 1) = bA ad bd n:=by
 unfold bA; rw [eR,if_pos h]
def j5(ad bd : List Dim) : AV:=.agg [.d (aF (aI ad bd)),.d (aF (bY ad bd)),.d (aF (aV ad bd))]
set_option maxHeartbeats 4000000 in
theorem ng(a b : Arr)(hb : b.dims.length≤1000) : CallA Tryz.prog 155 [aO a,aO b] [] (j5 a.dims b.dims) []:=by
 unfold aO j5
 refine enter ag Tryz.func155 rfl (by decide +kernel) rfl fun hok w0 σ0 φ0 M=>?_
 clear hok
 repeat' (first|(refine h1H ?_; (refine h0H ?_; refine ab J J J J J J J J (xH _ _ _ _) J ?_))|(refine h5H ?_; refine bm (br (dl:=[10,12,14]) J) (bV ?_))|refine wG ?_|(refine h5H ?_; first|refine ao J (fun h=>?_) (fun h=>?_)|refine dy 3 J (Imp.trans (gL 3 0 10 (k:=1) (b:=8) J J (by kernel_rfl)) (Imp.trans (gL 3 1 12 (k:=1) (b:=8) J J (by kernel_rfl)) (gL 3 2 14 (k:=1) (b:=8) J J (by kernel_rfl)))) [(2,_),(4,_),(5,_),(10,_),(11,_)] (q5Q J J J J J) (fun (bN : Bool×Bool) (p : Nat×Nat×Nat×List (List D)×List (List D)×List (List D))=>[(12,.one (.d (.int .i64 (p.1 : Int))))]) (fun (bN : Bool×Bool) (p : Nat×Nat×Nat×List (List D)×List (List D)×List (List D))=>[(3,.box [.own (nmA bN) p.2.1,.own (nmB bN) p.2.1,.own 14 p.2.2.1]),((nmA bN),.row 1 8 p.2.2.2.1),((nmB bN),.row 1 8 p.2.2.2.2.1),(14,.row 1 8 p.2.2.2.2.2),(2,.box [.d .nil,.d .nil,.d .nil]),(0,.box [.d (aj a.dims),.d (ai a.attrs),.d (ak a.cells)]),(1,.box [.d (aj b.dims),.d (ai b.attrs),.d (ak b.cells)])]) (fun (p : Nat×Nat×Nat×List (List D)×List (List D)×List (List D))=>p.1≤b.dims.length∧p.2.1≤p.1∧p.2.2.1≤p.1∧p.2.2.2.1 = (ju a.dims b.dims p.1).map aB∧p.2.2.2.2.1 = (jv a.dims b.dims p.1).map aB∧p.2.2.2.2.2 = (bA a.dims b.dims p.1).map aB∧p.2.2.2.1.length = p.2.1∧p.2.2.2.2.1.length = p.2.1∧p.2.2.2.2.2.length = p.2.2.1) (fun (p : Nat×Nat×Nat×List (List D)×List (List D)×List (List D))=>b.dims.length - p.1) (0,0,0,[],[],[]) (q1Q J) wK (fun b y=>by obtain ⟨b1,b2⟩:=b; cases b1 <;> cases b2 <;> first|exact Imp.refl _|exact dz qN (by kernel_rfl)) ?_ (fun p ⟨hk,hn1,hn2,hr1,hr2,hr3,hl1,hl2,hl3⟩=>?_))|(show Exists _; first|refine Exists.intro ((p.1 + 1,p.2.1 + 1,p.2.2.1,p.2.2.2.1.take p.2.1 ++ [[.int .i64 (aD (fun d : Dim=>d.name == (at_ b.dims p.1).name) a.dims 0)]],p.2.2.2.2.1.take p.2.1 ++ [[.int .i64 (p.1 : Int)]],p.2.2.2.2.2)) (Exists.intro (true,true) ⟨?_,?_,wK,(q1Q J),(q5Q J J J J J)⟩)|refine Exists.intro ((p.1 + 1,p.2.1,p.2.2.1 + 1,p.2.2.2.1,p.2.2.2.2.1,p.2.2.2.2.2.take p.2.2.1 ++ [[.int .i64 (p.1 : Int)]])) (Exists.intro (false,false) ⟨?_,?_,wK,(q1Q J),(q5Q J J J J J)⟩)))
 all_goals first
  | exact ⟨Nat.zero_le _,Nat.le_refl _,Nat.le_refl _,rfl,rfl,rfl,rfl,rfl,rfl⟩
  | (have hlt : p.1 < b.dims.length:=by simpa using ‹decide ((p.1 : Int) < ((b.dims.map al).length : Int)) = true›
     show b.dims.length - (p.1 + 1) < b.dims.length - p.1
     omega)
  | (have hlt : p.1 < b.dims.length:=by simpa using ‹decide ((p.1 : Int) < ((b.dims.map al).length : Int)) = true›
     have hin : inD a.dims (at_ b.dims p.1).name = true:=h
     refine ⟨hlt,by show p.2.1 + 1≤p.1 + 1; omega,by show p.2.2.1≤p.1 + 1; omega,?_,?_,?_,?_,?_,hl3⟩
     ·show List.take p.2.1 p.2.2.2.1 ++ _ = (ju a.dims b.dims (p.1 + 1)).map aB
      rw [CL _ _ _ hin,← hr1,List.take_of_length_le (by omega)]; rfl
     ·show List.take p.2.1 p.2.2.2.2.1 ++ _ = (jv a.dims b.dims (p.1 + 1)).map aB
      rw [CM _ _ _ hin,← hr2,List.take_of_length_le (by omega)]
     ·show p.2.2.2.2.2 = (bA a.dims b.dims (p.1 + 1)).map aB
      rw [Bg _ _ _ hin]; exact hr3
     ·show (List.take p.2.1 p.2.2.2.1 ++ _).length = p.2.1 + 1
      rw [List.take_of_length_le (by omega),List.length_append,hl1]; rfl
     ·show (List.take p.2.1 p.2.2.2.2.1 ++ _).length = p.2.1 + 1
      rw [List.take_of_length_le (by omega),List.length_append,hl2]; rfl)
  | (have hlt : p.1 < b.dims.length:=by simpa using ‹decide ((p.1 : Int) < ((b.dims.map al).length : Int)) = true›
     have hin : inD a.dims (at_ b.dims p.1).name = false:=h
     refine ⟨hlt,by show p.2.1≤p.1 + 1; omega,by show p.2.2.1 + 1≤p.1 + 1; omega,?_,?_,?_,hl1,hl2,?_⟩
     ·show p.2.2.2.1 = (ju a.dims b.dims (p.1 + 1)).map aB
      rw [Be _ _ _ hin]; exact hr1
     ·show p.2.2.2.2.1 = (jv a.dims b.dims (p.1 + 1)).map aB
      rw [Bf _ _ _ hin]; exact hr2
     ·show List.take p.2.2.1 p.2.2.2.2.2 ++ _ = (bA a.dims b.dims (p.1 + 1)).map aB
      rw [CN _ _ _ hin,← hr3,List.take_of_length_le (by omega)]
     ·show (List.take p.2.2.1 p.2.2.2.2.2 ++ _).length = p.2.2.1 + 1
      rw [List.take_of_length_le (by omega),List.length_append,hl3]; rfl)
  | (have he : p.1 = b.dims.length:=by
      have : ¬ p.1 < b.dims.length:=by simpa using h
      omega
     rw [he] at hr1 hr2 hr3
     show AV.agg [.d (.sl 1 8 (p.2.2.2.1.take p.2.1)),.d (.sl 1 8 (p.2.2.2.2.1.take p.2.1)),.d (.sl 1 8 (p.2.2.2.2.2.take p.2.2.1))] = _
     rw [List.take_of_length_le (by omega),List.take_of_length_le (by omega),List.take_of_length_le (by omega),hr1,hr2,hr3]
     rfl)
theorem HV(nm : List UInt8)(lo hi : Int) : CallA Tryz.prog 213 [.agg [.d (.str nm),.d (.int .i64 lo),.d (.int .i64 hi)]] [] (.one (.d (.bool (decide (hi < lo))))) []:=by
 refine enter ag Tryz.func213 rfl (by decide +kernel) rfl fun hok w0 σ0 φ0 M=>?_
 clear hok
 repeat' (first|refine wG ?_)
 all_goals rfl
theorem E3(ds : List Dim) : CallA Tryz.prog 201 [.one (.d (aj ds)),.one (.d (.fn 213 []))] [] (.one (.d (.bool (ds.any fZ)))) []:=by
 refine enter ag Tryz.func201 rfl (by decide +kernel) rfl fun hok w0 σ0 φ0 M=>?_
 clear hok
 repeat' (first|(refine h1H ?_; (refine h0H ?_; refine ab J J J J J J J J (DZ _ _ _ (fun d=>HV _ _ _) _) J ?_))|refine wG ?_)
 all_goals (rw [uF]; rfl)
theorem HW(b : Arr)(nm : List UInt8)(t : Int) : CallA Tryz.prog 211 [.agg [.d (.str nm),.d (.int .i64 t)],.one (.d (.ptr [aj b.dims,ai b.attrs,ak b.cells]))] [] (.one (.d (.bool (iD b nm)))) []:=by
 refine enter ag Tryz.func211 rfl (by decide +kernel) rfl fun hok w0 σ0 φ0 M=>?_
 clear hok
 repeat' (first|(refine h1H ?_; (refine h0H ?_; refine ab J J J J J J J J (Ev b _) J ?_))|refine wG ?_)
 all_goals rfl
theorem HX(b : Arr)(nm : List UInt8)(t : Int) : CallA Tryz.prog 212 [.agg [.d (.str nm),.d (.int .i64 t)],.one (.d (.ptr [aj b.dims,ai b.attrs,ak b.cells]))] [] (.one (.d (.bool (iD b nm)))) []:=by
 refine enter ag Tryz.func212 rfl (by decide +kernel) rfl fun hok w0 σ0 φ0 M=>?_
 clear hok
 repeat' (first|(refine h1H ?_; (refine h0H ?_; refine ab J J J J J J J J (Ev b _) J ?_))|refine wG ?_)
 all_goals rfl
theorem E4(b : Arr)(l : List Attr) : CallA Tryz.prog 210 [.one (.d (ai l)),.one (.d (.fn 211 [.ptr [aj b.dims,ai b.attrs,ak b.cells]]))] [] (.one (.d (.bool (l.any fun x=>iD b x.name)))) []:=by
 refine enter ag Tryz.func210 rfl (by decide +kernel) rfl fun hok w0 σ0 φ0 M=>?_
 clear hok
 repeat' (first|(refine h1H ?_; (refine h0H ?_; refine ab J J J J J J J J (Bu _ _ _ (fun d=>HW b _ _) _) J ?_))|refine wG ?_)
 all_goals (rw [uF])
theorem E5(b : Arr)(l : List Attr) : CallA Tryz.prog 210 [.one (.d (ai l)),.one (.d (.fn 212 [.ptr [aj b.dims,ai b.attrs,ak b.cells]]))] [] (.one (.d (.bool (l.any fun x=>iD b x.name)))) []:=by
 refine enter ag Tryz.func210 rfl (by decide +kernel) rfl fun hok w0 σ0 φ0 M=>?_
 clear hok
 repeat' (first|(refine h1H ?_; (refine h0H ?_; refine ab J J J J J J J J (Bu _ _ _ (fun d=>HX b _ _) _) J ?_))|refine wG ?_)
 all_goals (rw [uF])
theorem Cw(b : Arr)(l : List Attr)(e : Bool)(h : (l.any fun x=>iD b x.name) = e) : CallA Tryz.prog 210 [.one (.d (ai l)),.one (.d (.fn 211 [.ptr [aj b.dims,ai b.attrs,ak b.cells]]))] [] (.one (.d (.bool e))) []:=by
 subst h; exact E4 b l
theorem Gj(a b : Arr) : CallA Tryz.prog 156 [aO a,aO b] [] (.one (.d (.bool (cK a b || cK b a)))) []:=by
 unfold aO
 cases h1 : a.attrs.any fun x=>iD b x.name with
 | true =>
   have e : (cK a b || cK b a) = true:=by unfold cK; rw [h1]; rfl
   rw [e]
   refine enter ag Tryz.func156 rfl (by decide +kernel) rfl fun hok w0 σ0 φ0 M=>?_
   clear hok
   repeat' (first|(refine h1H ?_; (refine Ew ?_; first|refine ct (br (dl:=[1]) J) ?_|refine ct (br (dl:=[0]) J) ?_))|(refine h1H ?_; (refine h0H ?_; refine ab J J J J J J J J (Cw b a.attrs _ h1) J ?_))|refine wG ?_)
   all_goals rfl
 | false =>
   have e : (cK a b || cK b a) = (b.attrs.any fun x=>iD a x.name):=by unfold cK; rw [h1]; rfl
   rw [e]
   refine enter ag Tryz.func156 rfl (by decide +kernel) rfl fun hok w0 σ0 φ0 M=>?_
   clear hok
   repeat' (first|(refine h1H ?_; (refine Ew ?_; first|refine ct (br (dl:=[1]) J) ?_|refine ct (br (dl:=[0]) J) ?_))|(refine h1H ?_; (refine h0H ?_; first|refine ab J J J J J J J J (Cw b a.attrs _ h1) J ?_|refine ab J J J J J J J J (E5 a b.attrs) J ?_))|refine wG ?_)
   all_goals rfl
end Go.Proofs.YtpejdgkaapnekaaGreat
