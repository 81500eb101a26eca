import Derived.Test.YtpejdgkaapnekaaGreatGP21
import Derived.Test.YtpejdgkaapnekaaGreatGP3
set_option linter.unusedVariables false
set_option linter.unusedSimpArgs false
set_option linter.unnecessarySimpa false
set_option maxHeartbeats 1000000
namespace Go.Proofs.YtpejdgkaapnekaaGreat
open Go Go.Abs
attribute [local irreducible] ac OkC ao ax ap aJ
set_option maxRecDepth 10000
theorem zK{X Y L : List Int}{k : Nat}{c b : Int}{R : List (List D)}(hX : Dg X)(hlt : k < X.length)(hb : at_ Y k = b)(hb2 : 0≤b∧b < 4294967296)(hr : R = L.map ak)(hl2 : R.length = X.length)(hL : Dg L)(hc : 0≤c∧c≤1)
  (hv : af (L.take k) = af (X.take k) - af (Y.take k) + pw k * c) :
  k + 1≤X.length∧R.set k [.int .u32 ((at_ X k - b - c) % 4294967296)] = (L.set k ((at_ X k - b - c) % 4294967296)).map ak∧(R.set k [.int .u32 ((at_ X k - b - c) % 4294967296)]).length = X.length∧Dg (L.set k ((at_ X k - b - c) % 4294967296)) ∧
  (0≤(if at_ X k < b + c then (1 : Int) else 0)∧(if at_ X k < b + c then (1 : Int) else 0)≤1)∧af ((L.set k ((at_ X k - b - c) % 4294967296)).take (k + 1)) = af (X.take (k + 1)) - af (Y.take (k + 1)) + pw (k + 1) * (if at_ X k < b + c then (1 : Int) else 0):=by
 have hLl : L.length = X.length:=by rw [hr] at hl2; simpa using hl2
 have h1:=hX.at hlt
 subst hb
 refine ⟨hlt,?_,by simpa using hl2,hL.set (by omega),by split <;> omega,?_⟩
 ·rw [hr,List.map_set]; rfl
 have hs : k < (L.set k ((at_ X k - at_ Y k - c) % 4294967296)).length:=by simp; omega
 have hLk : k < L.length:=by omega
 rw [bm hs,bm hlt,List.take_set_of_le (Nat.le_refl _),c5]
 have e1 : at_ (L.set k ((at_ X k - at_ Y k - c) % 4294967296)) k = (at_ X k - at_ Y k - c) % 4294967296:=by simp [at_,hLk]
 have e2 : af (Y.take (k + 1)) = af (Y.take k) + pw k * at_ Y k:=by
  by_cases hY : k < Y.length
  ·exact bm hY
  ·rw [iQ (Nat.le_of_not_lt hY),List.take_of_length_le (by omega),List.take_of_length_le (by omega)]; simp
 rw [e1,e2,hv]
 have e3 : (at_ X k - at_ Y k - c) % 4294967296 = at_ X k - at_ Y k - c + 4294967296 * (if at_ X k < at_ Y k + c then (1 : Int) else 0):=by split <;> omega
 rw [e3]
 generalize (if at_ X k < at_ Y k + c then (1 : Int) else 0) = q
 have e4 : pw k * (at_ X k - at_ Y k - c + 4294967296 * q) = pw k * at_ X k - pw k * at_ Y k - pw k * c + 4294967296 * pw k * q:=by
  simp only [Int.mul_add,Int.mul_sub]
  rw [← Int.mul_assoc,Int.mul_comm (pw k) 4294967296]
 rw [e4]
 omega
theorem IT{X Y L : List Int}{k : Nat}{c : Int}(hk : X.length≤k)(hk2 : k≤X.length)(hxy : Y.length≤X.length)(hle : af Y≤af X)(hLl : L.length = X.length)(hX : Dg X)(hL : Dg L)(hc : 0≤c∧c≤1)(hv : af (L.take k) = af (X.take k) - af (Y.take k) + pw k * c) : (af L).toNat = (af X - af Y).toNat:=by
 have e : k = X.length:=by omega
 subst e
 rw [List.take_of_length_le (by omega),List.take_of_length_le (Nat.le_refl _),List.take_of_length_le hxy] at hv
 have h1:=dh hL
 rw [hLl] at h1
 have hc' : c = 0∨c = 1:=by omega
 rcases hc' with rfl | rfl
 ·rw [hv]; simp
 ·exfalso; rw [Int.mul_one] at hv; omega
theorem IU{X L : List Int}{R : List (List D)}(hr : R = L.map ak)(hl2 : R.length = X.length) : R.take X.length = L.map ak:=by
 rw [List.take_of_length_le (by omega),hr]
theorem Mf(X Y : List Int)(hX : Dg X)(hY : Dg Y)(hn : X.length≤400)(hxy : Y.length≤X.length)(hle : af Y≤af X) : CallA Tryz.prog 377 [.one (.d (cy X)),.one (.d (cy Y))] [] (.one (.d (bk (af X - af Y).toNat))) []:=by
 have zr : (0 : Int)≤0∧(0 : Int) < 4294967296:=⟨by omega,by omega⟩
 refine enter ae Tryz.func377 rfl (by decide +kernel) rfl fun hok w0 σ0 φ0 M=>?_
 clear hok
 repeat' (first|(refine h1H ?_; (refine h7H ?_; refine fi aq 10 J J J (ca (n:=X.length) J J J J J (by simp) (by simp) (by omega) (Nat.le_of_ble_eq_true J)) J J ?_))|(refine h1H ?_; (refine h0H ?_; first|refine cS 40 [10] J J J J J J J J J (mG _ p.2.2.1 _ (IU hr hl2) hL (IT (by simpa using h) hk hxy hle (by rw [hr] at hl2; simpa using hl2) hX hL hc hv)) J J J ?_|refine aa J J J J J J J J (BN _ _ _ (hX.at wB) (hY.at wB) hc) J ?_|refine aa J J J J J J J J (BN _ _ _ (hX.at wB) zr hc) J ?_))|refine wG ?_|(refine h4H ?_; first|refine ag J (fun h=>?_) (fun h=>?_)|refine b0 4 J [(0,_),(1,_),(5,_),(13,_)] (q4Q J J J J) (fun (p : Nat×Int×List Int×List (List D))=>[(14,.one (.d (.int .i64 (p.1 : Int)))),(6,.one (.d (.int .u32 p.2.1)))]) (fun (p : Nat×Int×List Int×List (List D))=>[(10,.row 1 4 p.2.2.2)]) (fun (p : Nat×Int×List Int×List (List D))=>p.1≤X.length∧p.2.2.2 = p.2.2.1.map ak∧p.2.2.2.length = X.length∧Dg p.2.2.1∧(0≤p.2.1∧p.2.1≤1)∧af (p.2.2.1.take p.1) = af (X.take p.1) - af (Y.take p.1) + pw p.1 * p.2.1) (fun (p : Nat×Int×List Int×List (List D))=>X.length - p.1) (0,0,List.replicate X.length 0,List.replicate X.length [.int .u32 0]) (q2Q J J) wK ?_ (fun p ⟨hk,hr,hl2,hL,hc,hv⟩=>?_))|(show Exists _; first|refine Exists.intro ((p.1 + 1,(if at_ X p.1 < at_ Y p.1 + p.2.1 then 1 else 0),p.2.2.1.set p.1 ((at_ X p.1 - at_ Y p.1 - p.2.1) % 4294967296),p.2.2.2.set p.1 [.int .u32 ((at_ X p.1 - at_ Y p.1 - p.2.1) % 4294967296)])) ⟨?_,?_,wK,(q2Q J J),(q4Q J J J J)⟩|refine Exists.intro ((p.1 + 1,(if at_ X p.1 < 0 + p.2.1 then 1 else 0),p.2.2.1.set p.1 ((at_ X p.1 - 0 - p.2.1) % 4294967296),p.2.2.2.set p.1 [.int .u32 ((at_ X p.1 - 0 - p.2.1) % 4294967296)])) ⟨?_,?_,wK,(q2Q J J),(q4Q J J J J)⟩))
 ·exact ⟨Nat.zero_le _,by simp [ak],by simp,Dg.zeros _,⟨Int.le_refl _,Int.zero_le_ofNat 1⟩,by simp [af]⟩
 ·exact zK hX (by simpa using ‹decide ((p.1 : Int) < ((X.map ak).length : Int)) = true›) rfl (hY.at (by simpa using h)) hr hl2 hL hc hv
 ·have hlt : p.1 < X.length:=by simpa using ‹decide ((p.1 : Int) < ((X.map ak).length : Int)) = true›
  show X.length - (p.1 + 1) < X.length - p.1
  omega
 ·exact zK hX (by simpa using ‹decide ((p.1 : Int) < ((X.map ak).length : Int)) = true›) (iQ (by simpa using h)) zr hr hl2 hL hc hv
 ·have hlt : p.1 < X.length:=by simpa using ‹decide ((p.1 : Int) < ((X.map ak).length : Int)) = true›
  show X.length - (p.1 + 1) < X.length - p.1
  omega
 ·rfl
theorem KI(m n : Nat)(hm : (dig m).length≤400)(h : n≤m) : CallA Tryz.prog 377 [.one (.d (bk m)),.one (.d (bk n))] [] (.one (.d (bk (m - n)))) []:=by
 obtain ⟨a1,a2,a3⟩:=cm m
 obtain ⟨b1,b2,b3⟩:=cm n
 have hl : (dig n).length≤(dig m).length:=by
  refine Nat.le_of_not_lt fun hc=>?_
  have:=mT hc; omega
 have:=Mf (dig m) (dig n) a1 b1 hm hl (by omega)
 rwa [a2,b2,show ((m : Int) - (n : Int)).toNat = m - n by omega] at this
def u8(c x y o : Int) : Int:=IntKind.u64.wrap (c + IntKind.u64.wrap (IntKind.u64.wrap (IntKind.u64.wrap x * IntKind.u64.wrap y) + IntKind.u64.wrap o))
theorem yT{x y : Int}(hx : 0≤x∧x < 4294967296)(hy : 0≤y∧y < 4294967296) : 0≤x * y∧x * y≤18446744065119617025:=by
 have h1 : x≤4294967295:=by omega
 have h2 : y≤4294967295:=by omega
 exact ⟨Int.mul_nonneg hx.1 hy.1,Int.le_trans (Int.mul_le_mul h1 h2 hy.1 (by omega)) (by decide)⟩
theorem cB{v : Int}(h0 : 0≤v)(h1 : v≤18446744073709551615) : IntKind.u64.wrap v = v:=by
 show v % 18446744073709551616 = v
 omega
theorem IC{c x y o : Int}(hc : 0≤c∧c < 4294967296)(hx : 0≤x∧x < 4294967296)(hy : 0≤y∧y < 4294967296)(ho : 0≤o∧o < 4294967296) : u8 c x y o = c + x * y + o∧0≤c + x * y + o∧c + x * y + o≤18446744073709551615:=by
 have h:=yT hx hy
 unfold u8
 rw [cB hx.1 (by omega),cB hy.1 (by omega),cB ho.1 (by omega),cB h.1 (by omega),cB (v:=x * y + o) (by omega) (by omega),cB (by omega) (by omega)]
 omega
theorem dV{l : List Int}{k t : Nat}{x : Int}(h : t≠k) : at_ (l.set k x) t = at_ l t:=by
 simp [at_,List.getD_eq_getElem?_getD,List.getElem?_set,Ne.symm h]
theorem GA{X Y L : List Int}{R : List (List D)}{i j : Nat}{c V T : Int}(hT : T = u8 c (at_ X i) (at_ Y j) (at_ L (i + j)))(hX : Dg X)(hY : Dg Y)(hi : i < X.length)(hj : j < Y.length)(hr : R = L.map ak)(hl : R.length = X.length + Y.length)(hL : Dg L)(hc : 0≤c∧c < 4294967296)
  (hz : ∀ t,i + Y.length≤t→at_ L t = 0) (hv : af L + pw (i + j) * c = V + pw i * (at_ X i * af (Y.take j))) :
  j + 1≤Y.length∧R.set (i + j) [.int .u32 (IntKind.u32.wrap T)] = (L.set (i + j) (IntKind.u32.wrap T)).map ak∧(R.set (i + j) [.int .u32 (IntKind.u32.wrap T)]).length = X.length + Y.length∧Dg (L.set (i + j) (IntKind.u32.wrap T)) ∧
  (0≤T.fdiv (2 ^ min (Int.toNat 32) IntKind.u64.bits)∧T.fdiv (2 ^ min (Int.toNat 32) IntKind.u64.bits) < 4294967296)∧(∀ t,i + Y.length≤t→at_ (L.set (i + j) (IntKind.u32.wrap T)) t = 0) ∧
  af (L.set (i + j) (IntKind.u32.wrap T)) + pw (i + (j + 1)) * T.fdiv (2 ^ min (Int.toNat 32) IntKind.u64.bits) = V + pw i * (at_ X i * af (Y.take (j + 1))):=by
 have hLl : L.length = X.length + Y.length:=by rw [hr] at hl; simpa using hl
 have hk : i + j < L.length:=by omega
 obtain ⟨e,h0,h1⟩:=IC hc (hX.at hi) (hY.at hj) (hL.at hk)
 rw [← hT] at e
 rw [iG,xJ]
 refine ⟨hj,by rw [hr,List.map_set]; rfl,by simpa using hl,hL.set (by omega),by omega,fun t ht=>by rw [dV (by omega)]; exact hz t ht,?_⟩
 rw [ko hk,bm hj,show i + (j + 1) = (i + j) + 1 by omega,c5]
 have e3 : T % 4294967296 + 4294967296 * (T / 4294967296) = T:=by omega
 generalize T % 4294967296 = r at e3 ⊢
 generalize T / 4294967296 = q at e3 ⊢
 have e4 : pw (i + j) * r + 4294967296 * pw (i + j) * q = pw (i + j) * c + pw (i + j) * (at_ X i * at_ Y j) + pw (i + j) * at_ L (i + j):=by
  rw [← Int.mul_add,← Int.mul_add,← e,← e3,Int.mul_add,Int.mul_comm 4294967296 (pw (i + j)),Int.mul_assoc]
 have e5 : pw i * (at_ X i * (af (Y.take j) + pw j * at_ Y j)) = pw i * (at_ X i * af (Y.take j)) + pw (i + j) * (at_ X i * at_ Y j):=by
  rw [Int.mul_add,Int.mul_add,gF,Int.mul_assoc (pw i) (pw j),Int.mul_left_comm (at_ X i) (pw j)]
 rw [e5,Int.mul_sub]
 omega
theorem ID{X Y L : List Int}{R : List (List D)}{i j : Nat}{c V : Int}(hX : Dg X)(hY : Dg Y)(hi : i < X.length)(hj : j≤Y.length)(hj2 : Y.length≤j)(hr : R = L.map ak)(hl : R.length = X.length + Y.length)(hL : Dg L)(hc : 0≤c∧c < 4294967296)
  (hz : ∀ t,i + Y.length≤t→at_ L t = 0) (hV : V = af (X.take i) * af Y) (hv : af L + pw (i + j) * c = V + pw i * (at_ X i * af (Y.take j))) :
  i + 1≤X.length∧R.set (i + (Y.map ak).length) [.int .u32 c] = (L.set (i + Y.length) c).map ak∧(R.set (i + (Y.map ak).length) [.int .u32 c]).length = X.length + Y.length∧Dg (L.set (i + Y.length) c) ∧
  (∀ t,i + 1 + Y.length≤t→at_ (L.set (i + Y.length) c) t = 0)∧af (L.set (i + Y.length) c) = af (X.take (i + 1)) * af Y:=by
 have hLl : L.length = X.length + Y.length:=by rw [hr] at hl; simpa using hl
 have e : j = Y.length:=by omega
 subst e
 rw [List.length_map]
 refine ⟨hi,by rw [hr,List.map_set]; rfl,by simpa using hl,hL.set hc,fun t ht=>by rw [dV (by omega)]; exact hz t (by omega),?_⟩
 rw [ko (by omega),hz _ (Nat.le_refl _),bm hi,Int.sub_zero,hv,hV,List.take_of_length_le (Nat.le_refl _),Int.add_mul,Int.mul_assoc]
theorem uw{n : Nat}{L : List Int}{R : List (List D)}(hr : R = L.map ak)(hl : R.length = n) : R.take n = L.map ak:=by rw [List.take_of_length_le (by omega),hr]
theorem IE{X Y L : List Int}{k : Nat}(hv : af L = af (X.take k) * af Y)(hk : k≤X.length)(h : X.length≤k) : (af L).toNat = (af X * af Y).toNat:=by
 rw [hv,List.take_of_length_le h]
set_option maxHeartbeats 1000000 in
theorem LR(X Y : List Int)(hX : Dg X)(hY : Dg Y)(hn : X.length≤400)(hm : Y.length≤400) : CallA Tryz.prog 361 [.one (.d (cy X)),.one (.d (cy Y))] [] (.one (.d (bk (af X * af Y).toNat))) []:=by
 refine enter ae Tryz.func361 rfl (by decide +kernel) rfl fun hok w0 σ0 φ0 M=>?_
 clear hok
 repeat' (first|(refine h1H ?_; (refine h7H ?_; refine fi aq 10 J J J (ca (n:=X.length + Y.length) J J J J J (by simp) (by simp) (by omega) (Nat.le_of_ble_eq_true J)) J J ?_))|(refine h1H ?_; (refine h0H ?_; refine cS 40 [10] J J J J J J J J J (mG _ p.2.1 _ (uw hr hl2) hL (IE hv hk (by simpa using h))) J J J ?_))|refine wG ?_|(refine h4H ?_; first|refine ag J (fun h=>?_) (fun h=>?_)|refine b0 7 J [(1,_),(5,_),(6,_),(7,_),(17,_),(18,_),(19,_),(24,_),(25,_)] (q9Q J J J J J J J J J) (fun (q : Nat×Int×List Int×List (List D))=>[(26,.one (.d (.int .i64 (q.1 : Int)))),(8,.one (.d (.int .u64 q.2.1)))]) (fun (q : Nat×Int×List Int×List (List D))=>[(10,.row 1 4 q.2.2.2)]) (fun (q : Nat×Int×List Int×List (List D))=>q.1≤Y.length∧q.2.2.2 = q.2.2.1.map ak∧q.2.2.2.length = X.length + Y.length∧Dg q.2.2.1∧(0≤q.2.1∧q.2.1 < 4294967296)∧(∀ t,p.1 + Y.length≤t→at_ q.2.2.1 t = 0)∧af q.2.2.1 + pw (p.1 + q.1) * q.2.1 = af p.2.1 + pw p.1 * (at_ X p.1 * af (Y.take q.1))) (fun (q : Nat×Int×List Int×List (List D))=>Y.length - q.1) (0,0,p.2.1,p.2.2) (q2Q J J) wK ?_ (fun q ⟨hqk,hqr,hql,hqL,hqc,hqz,hqv⟩=>?_)|refine b0 3 J [(1,_),(5,_),(17,_),(18,_)] (q4Q J J J J) (fun (p : Nat×List Int×List (List D))=>[(19,.one (.d (.int .i64 (p.1 : Int))))]) (fun (p : Nat×List Int×List (List D))=>[(10,.row 1 4 p.2.2)]) (fun (p : Nat×List Int×List (List D))=>p.1≤X.length∧p.2.2 = p.2.1.map ak∧p.2.2.length = X.length + Y.length∧Dg p.2.1∧(∀ t,p.1 + Y.length≤t→at_ p.2.1 t = 0)∧af p.2.1 = af (X.take p.1) * af Y) (fun (p : Nat×List Int×List (List D))=>X.length - p.1) (0,List.replicate (X.length + Y.length) 0,List.replicate (X.length + Y.length) [.int .u32 0]) (q1Q J) wK ?_ (fun p ⟨hk,hr,hl2,hL,hz,hv⟩=>?_))|(show Exists _; first|refine Exists.intro ((p.1 + 1,q.2.2.1.set (p.1 + Y.length) q.2.1,q.2.2.2.set (p.1 + (Y.map ak).length) [.int .u32 q.2.1])) ⟨?_,?_,wK,(q1Q J),(q4Q J J J J)⟩|refine Exists.intro ((q.1 + 1,(u8 q.2.1 (at_ X p.1) (at_ Y q.1) (at_ q.2.2.1 (p.1 + q.1))).fdiv (2 ^ min (Int.toNat 32) IntKind.u64.bits),q.2.2.1.set (p.1 + q.1) (IntKind.u32.wrap (u8 q.2.1 (at_ X p.1) (at_ Y q.1) (at_ q.2.2.1 (p.1 + q.1)))),q.2.2.2.set (p.1 + q.1) [.int .u32 (IntKind.u32.wrap (u8 q.2.1 (at_ X p.1) (at_ Y q.1) (at_ q.2.2.1 (p.1 + q.1))))])) ⟨?_,?_,wK,(q2Q J J),(q9Q J J J J J J J J J)⟩))
 ·exact ⟨Nat.zero_le _,by simp [ak],by simp,Dg.zeros _,fun t _=>by
   show at_ (List.replicate _ (0 : Int)) t = 0
   simp only [at_,List.getD_eq_getElem?_getD,List.getElem?_replicate]
   split <;> rfl,by
   show af (List.replicate _ (0 : Int)) = af (X.take 0) * af Y
   rw [Cv,List.take_zero]; simp [af]⟩
 ·exact ⟨Nat.zero_le _,hr,hl2,hL,⟨Int.le_refl _,by show (0 : Int) < 4294967296; omega⟩,hz,by
   show af p.2.1 + pw (p.1 + 0) * 0 = af p.2.1 + pw p.1 * (at_ X p.1 * af (Y.take 0))
   rw [List.take_zero]; simp [af]⟩
 ·exact GA rfl hX hY (by simpa using ‹decide ((p.1 : Int) < ((X.map ak).length : Int)) = true›) (by simpa using h) hqr hql hqL hqc hqz hqv
 ·have hlt : q.1 < Y.length:=by simpa using h
  show Y.length - (q.1 + 1) < Y.length - q.1
  omega
 ·exact ID hX hY (by simpa using ‹decide ((p.1 : Int) < ((X.map ak).length : Int)) = true›) hqk (by simpa using h) hqr hql hqL hqc hqz hv hqv
 ·have hlt : p.1 < X.length:=by simpa using ‹decide ((p.1 : Int) < ((X.map ak).length : Int)) = true›
  show X.length - (p.1 + 1) < X.length - p.1
  omega
 ·rfl
theorem yw(m n : Nat)(hm : (dig m).length≤400)(hn : (dig n).length≤400) : CallA Tryz.prog 361 [.one (.d (bk m)),.one (.d (bk n))] [] (.one (.d (bk (m * n)))) []:=by
 obtain ⟨a1,a2,a3⟩:=cm m
 obtain ⟨b1,b2,b3⟩:=cm n
 have:=LR (dig m) (dig n) a1 b1 hm hn
 rwa [a2,b2,show ((m : Int) * (n : Int)).toNat = m * n by rw [← Int.natCast_mul]; rfl] at this
def smT(r x : Int) : Int:=IntKind.u64.wrap ((BitVec.ofInt IntKind.u64.bits (IntKind.u64.wrap (r * 2 ^ min (Int.toNat 32) IntKind.u64.bits)) ||| BitVec.ofInt IntKind.u64.bits (IntKind.u64.wrap x)).toNat : Int)
theorem uY{a b : Nat}(ha : a < 4294967296)(hb : b < 4294967296) : ((BitVec.ofInt 64 ((a : Int) * 4294967296) ||| BitVec.ofInt 64 (b : Int)).toNat) = a * 4294967296 + b:=by
 rw [BitVec.toNat_or]
 have e1 : (BitVec.ofInt 64 ((a : Int) * 4294967296)).toNat = a * 4294967296:=by rw [BitVec.toNat_ofInt]; simp; omega
 have e2 : (BitVec.ofInt 64 (b : Int)).toNat = b:=by rw [BitVec.toNat_ofInt]; simp; omega
 rw [e1,e2]
 have h:=Nat.shiftLeft_add_eq_or_of_lt (i:=32) (b:=b) (by omega) a
 rw [Nat.shiftLeft_eq] at h
 exact h.symm
theorem sP{r x : Int}(hr : 0≤r∧r < 4294967296)(hx : 0≤x∧x < 4294967296) : smT r x = r * 4294967296 + x:=by
 obtain ⟨a,rfl⟩:=Int.eq_ofNat_of_zero_le hr.1
 obtain ⟨b,rfl⟩:=Int.eq_ofNat_of_zero_le hx.1
 unfold smT
 rw [show ((a : Int) * 2 ^ min (Int.toNat 32) IntKind.u64.bits) = (a : Int) * 4294967296 from rfl,cB (v:=(a : Int) * 4294967296) (by omega) (by omega),cB (v:=(b : Int)) (by omega) (by omega)]
 have h:=uY (a:=a) (b:=b) (by omega) (by omega)
 rw [show ((BitVec.ofInt IntKind.u64.bits ((a : Int) * 4294967296) ||| BitVec.ofInt IntKind.u64.bits (b : Int)).toNat) = a * 4294967296 + b from h]
 rw [cB (by omega) (by omega)]
 omega
theorem xe{r x d : Int}(hd : 0 < d∧d < 4294967296)(hr : 0≤r∧r < d)(hx : 0≤x∧x < 4294967296) : 0≤smT r x∧IntKind.u64.wrap (smT r x / d) = smT r x / d∧0≤smT r x / d∧smT r x / d < 4294967296:=by
 have e:=sP (r:=r) (x:=x) ⟨hr.1,by omega⟩ hx
 have h0 : 0≤smT r x:=by omega
 have h1 : 0≤smT r x / d:=Int.ediv_nonneg h0 (by omega)
 have h2 : smT r x / d < 4294967296:=by
  refine Int.ediv_lt_of_lt_mul hd.1 ?_
  rw [e]
  have : (r + 1) * 4294967296≤d * 4294967296:=Int.mul_le_mul_of_nonneg_right (by omega) (by omega)
  have e2 : 4294967296 * d = d * 4294967296:=Int.mul_comm _ _
  omega
 exact ⟨h0,cB h1 (by omega),h1,h2⟩
theorem IV{X L : List Int}{R : List (List D)}{i : Int}{r d : Int}(hX : Dg X)(hd : 0 < d∧d < 4294967296)(h0 : 0≤i)(h1 : i < (X.length : Int))(hr : R = L.map ak)(hl : R.length = X.length)(hL : Dg L)(hc : 0≤r∧r < d)
  (hv : af (X.drop (i + 1).toNat) = af (L.drop (i + 1).toNat) * d + r) :
  -1≤i - 1∧i - 1 < (X.length : Int)∧R.set i.toNat [.int .u32 (IntKind.u32.wrap (smT r (at_ X i.toNat) / d))] = (L.set i.toNat (IntKind.u32.wrap (smT r (at_ X i.toNat) / d))).map ak∧(R.set i.toNat [.int .u32 (IntKind.u32.wrap (smT r (at_ X i.toNat) / d))]).length = X.length ∧
  Dg (L.set i.toNat (IntKind.u32.wrap (smT r (at_ X i.toNat) / d)))∧(0≤smT r (at_ X i.toNat) % d∧smT r (at_ X i.toNat) % d < d) ∧
  af (X.drop (i - 1 + 1).toNat) = af ((L.set i.toNat (IntKind.u32.wrap (smT r (at_ X i.toNat) / d))).drop (i - 1 + 1).toNat) * d + smT r (at_ X i.toNat) % d:=by
 have hLl : L.length = X.length:=by rw [hr] at hl; simpa using hl
 obtain ⟨k,rfl⟩:=Int.eq_ofNat_of_zero_le h0
 simp only [Int.toNat_natCast]
 have hk : k < X.length:=by omega
 have hkL : k < L.length:=by omega
 obtain ⟨a1,a2,a3,a4⟩:=xe hd hc (hX.at hk)
 have ew : IntKind.u32.wrap (smT r (at_ X k) / d) = smT r (at_ X k) / d:=by rw [iG]; omega
 rw [ew]
 refine ⟨by omega,by omega,by rw [hr,List.map_set]; rfl,by simpa using hl,hL.set ⟨a3,a4⟩,⟨Int.emod_nonneg _ (by omega),Int.emod_lt_of_pos _ hd.1⟩,?_⟩
 rw [show ((k : Int) - 1 + 1).toNat = k by omega,am hk,am (l:=L.set k _) (by simpa using hkL)]
 rw [show ((k : Int) + 1).toNat = k + 1 by omega] at hv
 have e1 : at_ (L.set k (smT r (at_ X k) / d)) k = smT r (at_ X k) / d:=by simp [at_,hkL]
 rw [e1,List.drop_set_of_lt (by omega)]
 simp only [af]
 rw [hv]
 have e2:=sP (r:=r) (x:=at_ X k) ⟨hc.1,by omega⟩ (hX.at hk)
 have e3:=Int.mul_ediv_add_emod (smT r (at_ X k)) d
 generalize smT r (at_ X k) = T at e2 e3 ⊢
 generalize T / d = q at e3 ⊢
 generalize T % d = m at e3 ⊢
 generalize af (L.drop (k + 1)) = N
 have e4 : (q + 4294967296 * N) * d = d * q + 4294967296 * (N * d):=by rw [Int.add_mul,Int.mul_comm q d,Int.mul_assoc]
 rw [e4,Int.mul_add]
 omega
theorem Ff{X L : List Int}{i r d : Int}(hd : 0 < d)(h0 : ¬ 0≤i)(h1 : -1≤i)(hc : 0≤r∧r < d)(hv : af (X.drop (i + 1).toNat) = af (L.drop (i + 1).toNat) * d + r) : af L = af X / d∧r = af X % d:=by
 rw [show (i + 1).toNat = 0 by omega,List.drop_zero,List.drop_zero] at hv
 have:=Int.ediv_emod_unique (a:=af X) (b:=d) (q:=af L) (r:=r) hd
 have h:=this.2 ⟨by rw [hv,Int.mul_comm d]; omega,hc.1,hc.2⟩
 exact ⟨h.1.symm,h.2.symm⟩
set_option maxHeartbeats 1000000 in
theorem Mg(X : List Int)(d : Int)(hX : Dg X)(hn : X.length≤400)(hd : 0 < d∧d < 4294967296) : CallA Tryz.prog 371 [.one (.d (cy X)),.one (.d (.int .u32 d))] [] (.tup [(false,[.d (bk (af X / d).toNat)]),(false,[.d (.int .u32 (af X % d))])]) []:=by
 refine enter ae Tryz.func371 rfl (by decide +kernel) rfl fun hok w0 σ0 φ0 M=>?_
 clear hok
 repeat' (first|(refine h1H ?_; (refine h7H ?_; refine fi aq 10 J J J (ca (n:=X.length) J J J J J (by simp) (by simp) (by omega) (Nat.le_of_ble_eq_true J)) J J ?_))|(refine h1H ?_; (refine pE ?_; refine s_e aq J J J (ec J J J J (xe hd hc (hX.at (show p.1.toNat < X.length from wB))).1 hd.1 (xe hd hc (hX.at (show p.1.toNat < X.length from wB))).2.1) ?_))|(refine h1H ?_; (refine uV ?_; refine s_e aq J J J (fZ J J J J (xe hd hc (hX.at (show p.1.toNat < X.length from wB))).1 hd.1) ?_))|(refine h1H ?_; (refine h0H ?_; refine cS 40 [10] J J J J J J J J J (mG _ p.2.2.1 _ (uw hr hl2) hL (congrArg Int.toNat (Ff hd.1 (of_decide_eq_false h) hk hc hv).1)) J J J ?_))|refine wG ?_|(refine h4H ?_; first|refine ag J (fun h=>?_) (fun h=>?_)|refine b0 4 J [(0,_),(1,_),(6,_)] (q3Q J J J) (fun (p : Int×Int×List Int×List (List D))=>[(8,.one (.d (.int .i64 p.1))),(7,.one (.d (.int .u64 p.2.1)))]) (fun (p : Int×Int×List Int×List (List D))=>[(10,.row 1 4 p.2.2.2)]) (fun (p : Int×Int×List Int×List (List D))=>-1≤p.1∧p.1 < (X.length : Int)∧p.2.2.2 = p.2.2.1.map ak∧p.2.2.2.length = X.length∧Dg p.2.2.1∧(0≤p.2.1∧p.2.1 < d)∧af (X.drop (p.1 + 1).toNat) = af (p.2.2.1.drop (p.1 + 1).toNat) * d + p.2.1) (fun (p : Int×Int×List Int×List (List D))=>(p.1 + 1).toNat) ((((X.map ak).length : Int) - 1),0,List.replicate X.length 0,List.replicate X.length [.int .u32 0]) (q2Q J J) wK ?_ (fun p ⟨hk,hk2,hr,hl2,hL,hc,hv⟩=>?_))|(show Exists _; refine Exists.intro (((p.1 - 1),smT p.2.1 (at_ X p.1.toNat) % d,p.2.2.1.set p.1.toNat (IntKind.u32.wrap (smT p.2.1 (at_ X p.1.toNat) / d)),p.2.2.2.set p.1.toNat [.int .u32 (IntKind.u32.wrap (smT p.2.1 (at_ X p.1.toNat) / d))])) ⟨?_,?_,wK,(q2Q J J),(q3Q J J J)⟩))
 ·refine ⟨by simp; omega,by simp; omega,by simp [ak],by simp,Dg.zeros _,⟨Int.le_refl _,hd.1⟩,?_⟩
  show af (X.drop ((((X.map ak).length : Int) - 1 + 1).toNat)) = af ((List.replicate X.length 0).drop ((((X.map ak).length : Int) - 1 + 1).toNat)) * d + 0
  rw [List.length_map,show ((X.length : Int) - 1 + 1).toNat = X.length by omega,List.drop_length,List.drop_eq_nil_of_le (by simp)]
  simp [af]
 ·exact IV hX hd (of_decide_eq_true h) hk2 hr hl2 hL hc hv
 ·have h0 : 0≤p.1:=of_decide_eq_true h
  show (p.1 - 1 + 1).toNat < (p.1 + 1).toNat
  omega
 ·show AV.tup [(false,[.d (bk (af X / d).toNat)]),(false,[.d (.int .u32 p.2.1)])] = _
  rw [(Ff hd.1 (of_decide_eq_false h) hk hc hv).2]
theorem Nz(n d : Nat)(hn : (dig n).length≤400)(hd : 0 < d∧d < 4294967296) : CallA Tryz.prog 371 [.one (.d (bk n)),.one (.d (.int .u32 d))] [] (.tup [(false,[.d (bk (n / d))]),(false,[.d (.int .u32 (n % d : Nat))])]) []:=by
 obtain ⟨a1,a2,a3⟩:=cm n
 have:=Mg (dig n) d a1 hn (by omega)
 rwa [a2,show ((n : Int) / (d : Int)).toNat = n / d by rw [← Int.natCast_ediv]; rfl,show ((n : Int) % (d : Int)) = ((n % d : Nat) : Int) from (Int.natCast_emod n d).symm] at this
def wid : Nat→Nat→List Int
 | 0,_=>[]
 | w + 1,n=>((n % 4294967296 : Nat) : Int)::wid w (n / 4294967296)
theorem eN : ∀ (w n : Nat),(wid w n).length = w
 | 0,_=>rfl
 | w + 1,n=>by simp [wid,eN w]
theorem lR : ∀ {l : List Int},Dg l→wid l.length (af l).toNat = l
 | [],_=>rfl
 | d::r,h=>by
   obtain ⟨h1,h2⟩:=h.cons
   have hb:=(dh h2).1
   have ih:=lR h2
   simp only [List.length_cons,wid,af]
   rw [show (d + 4294967296 * af r).toNat / 4294967296 = (af r).toNat by omega,ih,show (((d + 4294967296 * af r).toNat % 4294967296 : Nat) : Int) = d by omega]
def shV(d s : Int) : Int:=IntKind.u64.wrap (IntKind.u64.wrap d * 2 ^ min s.toNat IntKind.u64.bits)
def shO(o v : Int) : Int:=IntKind.u32.wrap ((BitVec.ofInt IntKind.u32.bits o ||| BitVec.ofInt IntKind.u32.bits (IntKind.u32.wrap v)).toNat : Int)
theorem ej{L : List Int}{R : List (List D)}{k : Nat}{x : Int}(hr : R = L.map ak) : R.set k [.int .u32 x] = (L.set k x).map ak:=by rw [hr,List.map_set]; rfl
theorem DI{a b s : Nat}(ha : a < 2 ^ s) : a ||| b * 2 ^ s = a + b * 2 ^ s:=by
 have h:=Nat.shiftLeft_add_eq_or_of_lt ha b
 rw [Nat.shiftLeft_eq] at h
 rw [Nat.or_comm,← h,Nat.add_comm]
theorem KY{o d : Int}{s : Nat}(hs : s≤31)(ho : 0≤o∧o < 2 ^ s)(hd : 0≤d∧d < 4294967296) :
  shV d s = d * 2 ^ s∧0≤shV d s∧(shV d s).fdiv (2 ^ min (Int.toNat 32) IntKind.u64.bits) = d * 2 ^ s / 4294967296∧d * 2 ^ s / 4294967296 < 2 ^ s∧0≤d * 2 ^ s / 4294967296 ∧
  shO o (shV d s) = o + d * 2 ^ s % 4294967296∧0≤o + d * 2 ^ s % 4294967296∧o + d * 2 ^ s % 4294967296 < 4294967296:=by
 obtain ⟨a,rfl⟩:=Int.eq_ofNat_of_zero_le ho.1
 obtain ⟨b,rfl⟩:=Int.eq_ofNat_of_zero_le hd.1
 have h2 : (2 : Int) ^ s = ((2 ^ s : Nat) : Int):=by simp
 have ha : a < 2 ^ s:=by have:=ho.2; rw [h2] at this; omega
 have hb : b < 4294967296:=by omega
 have hp : 2 ^ s≤2147483648:=Nat.pow_le_pow_right (by omega) hs
 have hv : shV (b : Int) s = ((b * 2 ^ s : Nat) : Int):=by
  unfold shV
  have hm : min ((s : Int)).toNat IntKind.u64.bits = s:=by
   show min s 64 = s; omega
  have hbd : b * 2 ^ s≤4294967295 * 2147483648:=Nat.mul_le_mul (by omega) hp
  rw [cB (v:=(b : Int)) (by omega) (by omega),hm,h2,← Int.natCast_mul,cB (by omega) (by omega)]
 have hsp : 2 ^ 32 = 2 ^ (32 - s) * 2 ^ s:=by rw [← Nat.pow_add]; congr 1; omega
 have hlo : b * 2 ^ s % 4294967296 = (b % 2 ^ (32 - s)) * 2 ^ s:=by
  rw [show (4294967296 : Nat) = 2 ^ (32 - s) * 2 ^ s from hsp,Nat.mul_mod_mul_right]
 have hhi : b * 2 ^ s / 4294967296 = b / 2 ^ (32 - s):=by
  rw [show (4294967296 : Nat) = 2 ^ (32 - s) * 2 ^ s from hsp,Nat.mul_div_mul_right _ _ (Nat.two_pow_pos s)]
 have hhl : b / 2 ^ (32 - s) < 2 ^ s:=by
  refine Nat.div_lt_of_lt_mul ?_
  rw [← hsp]; omega
 have hlb : (b % 2 ^ (32 - s)) * 2 ^ s + 2 ^ s≤4294967296:=by
  have h1 : b % 2 ^ (32 - s) + 1≤2 ^ (32 - s):=Nat.mod_lt _ (Nat.two_pow_pos _)
  have h3:=Nat.mul_le_mul_right (2 ^ s) h1
  rw [← hsp,Nat.add_mul,Nat.one_mul] at h3
  exact h3
 have hO : shO (a : Int) (shV (b : Int) s) = ((a + b * 2 ^ s % 4294967296 : Nat) : Int):=by
  unfold shO
  rw [hv]
  generalize b * 2 ^ s = v at hlo ⊢
  simp only [iG]
  have e1 : (BitVec.ofInt 32 (a : Int)).toNat = a:=by rw [BitVec.toNat_ofInt]; simp; omega
  have e2 : (BitVec.ofInt 32 ((v : Int) % 4294967296)).toNat = v % 4294967296:=by rw [BitVec.toNat_ofInt]; simp; omega
  have e3 : (BitVec.ofInt 32 (a : Int) ||| BitVec.ofInt 32 ((v : Int) % 4294967296)).toNat = a + v % 4294967296:=by
   rw [BitVec.toNat_or,e1,e2,hlo,DI ha]
  rw [show ((BitVec.ofInt IntKind.u32.bits (a : Int) ||| BitVec.ofInt IntKind.u32.bits ((v : Int) % 4294967296)).toNat) = a + v % 4294967296 from e3]
  rw [hlo]; omega
 rw [hO,hv,xJ,h2,← Int.natCast_mul]
 refine ⟨rfl,by omega,by omega,?_,by omega,by omega,by omega,?_⟩
 ·rw [show ((b * 2 ^ s : Nat) : Int) / 4294967296 = ((b * 2 ^ s / 4294967296 : Nat) : Int) by omega,hhi]; omega
 ·rw [show ((b * 2 ^ s : Nat) : Int) % 4294967296 = ((b * 2 ^ s % 4294967296 : Nat) : Int) by omega,hlo]; omega
theorem Ai{X L : List Int}{R : List (List D)}{k s : Nat}(hX : Dg X)(hs : s≤31)(hk : k < X.length)(hr : R = L.map ak)(hl : R.length = X.length + 1)(hL : Dg L)(ho : at_ L k < 2 ^ s)(hv : af (L.take k) + pw k * at_ L k = af (X.take k) * 2 ^ s) :
  k + 1≤X.length∧(R.set k [.int .u32 (shO (at_ L k) (shV (at_ X k) s))]).set (k + 1) [.int .u32 (IntKind.u32.wrap ((shV (at_ X k) s).fdiv (2 ^ min (Int.toNat 32) IntKind.u64.bits)))] = ((L.set k (shO (at_ L k) (shV (at_ X k) s))).set (k + 1) (IntKind.u32.wrap ((shV (at_ X k) s).fdiv (2 ^ min (Int.toNat 32) IntKind.u64.bits)))).map ak ∧
  ((R.set k [.int .u32 (shO (at_ L k) (shV (at_ X k) s))]).set (k + 1) [.int .u32 (IntKind.u32.wrap ((shV (at_ X k) s).fdiv (2 ^ min (Int.toNat 32) IntKind.u64.bits)))]).length = X.length + 1 ∧
  Dg ((L.set k (shO (at_ L k) (shV (at_ X k) s))).set (k + 1) (IntKind.u32.wrap ((shV (at_ X k) s).fdiv (2 ^ min (Int.toNat 32) IntKind.u64.bits)))) ∧
  at_ ((L.set k (shO (at_ L k) (shV (at_ X k) s))).set (k + 1) (IntKind.u32.wrap ((shV (at_ X k) s).fdiv (2 ^ min (Int.toNat 32) IntKind.u64.bits)))) (k + 1) < 2 ^ s ∧
  af (((L.set k (shO (at_ L k) (shV (at_ X k) s))).set (k + 1) (IntKind.u32.wrap ((shV (at_ X k) s).fdiv (2 ^ min (Int.toNat 32) IntKind.u64.bits)))).take (k + 1)) + pw (k + 1) * at_ ((L.set k (shO (at_ L k) (shV (at_ X k) s))).set (k + 1) (IntKind.u32.wrap ((shV (at_ X k) s).fdiv (2 ^ min (Int.toNat 32) IntKind.u64.bits)))) (k + 1) = af (X.take (k + 1)) * 2 ^ s:=by
 have hLl : L.length = X.length + 1:=by rw [hr] at hl; simpa using hl
 have hkL : k < L.length:=by omega
 obtain ⟨a1,a2,a3,a4,a5,a6,a7,a8⟩:=KY (o:=at_ L k) (d:=at_ X k) hs ⟨(hL.at hkL).1,ho⟩ (hX.at hk)
 have hp : (2 : Int) ^ s≤2147483648:=by
  have:=Nat.pow_le_pow_right (n:=2) (by omega) hs
  have h2 : (2 : Int) ^ s = ((2 ^ s : Nat) : Int):=by simp
  omega
 have ew : IntKind.u32.wrap ((shV (at_ X k) s).fdiv (2 ^ min (Int.toNat 32) IntKind.u64.bits)) = at_ X k * 2 ^ s / 4294967296:=by rw [iG,a3]; omega
 rw [ew,a6]
 have e1 : at_ ((L.set k (at_ L k + at_ X k * 2 ^ s % 4294967296)).set (k + 1) (at_ X k * 2 ^ s / 4294967296)) (k + 1) = at_ X k * 2 ^ s / 4294967296:=by
  have : k + 1 < L.length:=by omega
  simp [at_,this]
 rw [e1]
 refine ⟨hk,by rw [hr]; simp only [List.map_set]; rfl,by simpa using hl,(hL.set ⟨a7,a8⟩).set ⟨a5,by omega⟩,a4,?_⟩
 have hs2 : k < (L.set k (at_ L k + at_ X k * 2 ^ s % 4294967296)).length:=by simpa using hkL
 rw [List.take_set_of_le (Nat.le_refl _),bm hs2,List.take_set_of_le (Nat.le_refl _),bm hk,c5]
 have e2 : at_ (L.set k (at_ L k + at_ X k * 2 ^ s % 4294967296)) k = at_ L k + at_ X k * 2 ^ s % 4294967296:=by simp [at_,hkL]
 rw [e2,Int.add_mul,← hv,Int.mul_assoc (pw k) (at_ X k)]
 generalize at_ X k * 2 ^ s = v
 have e3 : v % 4294967296 + 4294967296 * (v / 4294967296) = v:=by omega
 have e4 : pw k * (v % 4294967296) + 4294967296 * pw k * (v / 4294967296) = pw k * v:=by
  conv=>rhs; rw [← e3]
  rw [Int.mul_add,Int.mul_comm 4294967296 (pw k),Int.mul_assoc]
 rw [Int.mul_add]
 omega
set_option maxHeartbeats 1000000 in
theorem K4(X : List Int)(s : Nat)(hX : Dg X)(hn : X.length≤400)(hs : s≤31) : CallA Tryz.prog 373 [.one (.d (cy X)),.one (.d (.int .i64 s))] [] (.one (.d (cy (wid (X.length + 1) (af X * 2 ^ s).toNat)))) []:=by
 refine enter ae Tryz.func373 rfl (by decide +kernel) rfl fun hok w0 σ0 φ0 M=>?_
 clear hok
 repeat' (first|(refine h1H ?_; (refine h7H ?_; refine fi aq 10 J J J (ca (n:=X.length + 1) J J J J J (by simp) (by simp) (by omega) (Nat.le_of_ble_eq_true J)) J J ?_))|(refine h1H ?_; (refine h8H ?_; refine nv aq J J (dI J J J J J J J J J (dJ (ej hr) (by simp only [List.length_set,Int.toNat_natCast]; first|omega|(simp at h; omega))) J) ?_))|(refine h4H ?_; refine bu (bR (dl:=[10]) J) (cv ?_))|refine wG ?_|(refine h4H ?_; first|refine ag J (fun h=>?_) (fun h=>?_)|refine b0 3 J [(1,_),(5,_),(13,_),(14,_)] (q4Q J J J J) (fun (p : Nat×List Int×List (List D))=>[(15,.one (.d (.int .i64 (p.1 : Int))))]) (fun (p : Nat×List Int×List (List D))=>[(10,.row 1 4 p.2.2)]) (fun (p : Nat×List Int×List (List D))=>p.1≤X.length∧p.2.2 = p.2.1.map ak∧p.2.2.length = X.length + 1∧Dg p.2.1∧at_ p.2.1 p.1 < 2 ^ s∧af (p.2.1.take p.1) + pw p.1 * at_ p.2.1 p.1 = af (X.take p.1) * 2 ^ s) (fun (p : Nat×List Int×List (List D))=>X.length - p.1) (0,List.replicate (X.length + 1) 0,List.replicate (X.length + 1) [.int .u32 0]) (q1Q J) wK ?_ (fun p ⟨hk,hr,hl2,hL,ho,hv⟩=>?_))|(show Exists _; refine Exists.intro ((p.1 + 1,(p.2.1.set p.1 (shO (at_ p.2.1 p.1) (shV (at_ X p.1) s))).set (p.1 + 1) (IntKind.u32.wrap ((shV (at_ X p.1) s).fdiv (2 ^ min (Int.toNat 32) IntKind.u64.bits))),(p.2.2.set p.1 [.int .u32 (shO (at_ p.2.1 p.1) (shV (at_ X p.1) s))]).set (p.1 + 1) [.int .u32 (IntKind.u32.wrap ((shV (at_ X p.1) s).fdiv (2 ^ min (Int.toNat 32) IntKind.u64.bits)))])) ⟨?_,?_,wK,(q1Q J),(q4Q J J J J)⟩))
 ·have hp : (0 : Int) < 2 ^ s:=Int.pow_pos (by omega)
  have e0 : at_ (List.replicate (X.length + 1) (0 : Int)) 0 = 0:=by simp [at_]
  exact ⟨Nat.zero_le _,by simp [ak],by simp,Dg.zeros _,by show at_ (List.replicate (X.length + 1) (0 : Int)) 0 < 2 ^ s; rw [e0]; exact hp,by
   show af ((List.replicate (X.length + 1) (0 : Int)).take 0) + pw 0 * at_ (List.replicate (X.length + 1) (0 : Int)) 0 = af (X.take 0) * 2 ^ s
   rw [e0]; simp [af]⟩
 ·exact Ai hX hs (by simpa using h) hr hl2 hL ho hv
 ·have hlt : p.1 < X.length:=by simpa using h
  show X.length - (p.1 + 1) < X.length - p.1
  omega
 ·have hge : X.length≤p.1:=by simpa using h
  have e : p.1 = X.length:=by omega
  have hLl : p.2.1.length = X.length + 1:=by rw [hr] at hl2; simpa using hl2
  rw [e,List.take_of_length_le (Nat.le_refl _),← bm (by omega),List.take_of_length_le (by omega)] at hv
  show AV.one (.d (.sl 1 4 (p.2.2.take (X.length + 1)))) = _
  rw [← hv,← hLl,lR hL,List.take_of_length_le (by omega),hr]; rfl
theorem MW(n s : Nat)(hn : (dig n).length≤400)(hs : s≤31) : CallA Tryz.prog 373 [.one (.d (bk n)),.one (.d (.int .i64 s))] [] (.one (.d (cy (wid ((dig n).length + 1) (n * 2 ^ s))))) []:=by
 obtain ⟨a1,a2,a3⟩:=cm n
 have:=K4 (dig n) s a1 hn hs
 rwa [a2,show ((n : Int) * 2 ^ s).toNat = n * 2 ^ s by
  rw [show ((n : Int) * 2 ^ s) = ((n * 2 ^ s : Nat) : Int) by simp]; rfl] at this
set_option maxHeartbeats 1000000 in
theorem KW(X : List Int)(s : Nat)(hX : Dg X)(hn : X.length≤400)(hs : s≤31) : CallA Tryz.prog 373 [.one (.d (cy X)),.one (.d (.int .i64 s))] [] (.one (.own 10 (X.length + 1))) [(10,.row 1 4 ((wid (X.length + 1) (af X * 2 ^ s).toNat).map ak))]:=by
 refine enter ae Tryz.func373 rfl (by decide +kernel) rfl fun hok w0 σ0 φ0 M=>?_
 clear hok
 repeat' (first|(refine h1H ?_; (refine h7H ?_; refine fi aq 10 J J J (ca (n:=X.length + 1) J J J J J (by simp) (by simp) (by omega) (Nat.le_of_ble_eq_true J)) J J ?_))|(refine h1H ?_; (refine h8H ?_; refine nv aq J J (dI J J J J J J J J J (dJ (ej hr) (by simp only [List.length_set,Int.toNat_natCast]; first|omega|(simp at h; omega))) J) ?_))|refine wG ?_|(refine h4H ?_; first|refine ag J (fun h=>?_) (fun h=>?_)|refine b0 3 J [(1,_),(5,_),(13,_),(14,_)] (q4Q J J J J) (fun (p : Nat×List Int×List (List D))=>[(15,.one (.d (.int .i64 (p.1 : Int))))]) (fun (p : Nat×List Int×List (List D))=>[(10,.row 1 4 p.2.2)]) (fun (p : Nat×List Int×List (List D))=>p.1≤X.length∧p.2.2 = p.2.1.map ak∧p.2.2.length = X.length + 1∧Dg p.2.1∧at_ p.2.1 p.1 < 2 ^ s∧af (p.2.1.take p.1) + pw p.1 * at_ p.2.1 p.1 = af (X.take p.1) * 2 ^ s) (fun (p : Nat×List Int×List (List D))=>X.length - p.1) (0,List.replicate (X.length + 1) 0,List.replicate (X.length + 1) [.int .u32 0]) (q1Q J) wK ?_ (fun p ⟨hk,hr,hl2,hL,ho,hv⟩=>?_))|(show Exists _; refine Exists.intro ((p.1 + 1,(p.2.1.set p.1 (shO (at_ p.2.1 p.1) (shV (at_ X p.1) s))).set (p.1 + 1) (IntKind.u32.wrap ((shV (at_ X p.1) s).fdiv (2 ^ min (Int.toNat 32) IntKind.u64.bits))),(p.2.2.set p.1 [.int .u32 (shO (at_ p.2.1 p.1) (shV (at_ X p.1) s))]).set (p.1 + 1) [.int .u32 (IntKind.u32.wrap ((shV (at_ X p.1) s).fdiv (2 ^ min (Int.toNat 32) IntKind.u64.bits)))])) ⟨?_,?_,wK,(q1Q J),(q4Q J J J J)⟩))
 ·have hp : (0 : Int) < 2 ^ s:=Int.pow_pos (by omega)
  have e0 : at_ (List.replicate (X.length + 1) (0 : Int)) 0 = 0:=by simp [at_]
  exact ⟨Nat.zero_le _,by simp [ak],by simp,Dg.zeros _,by show at_ (List.replicate (X.length + 1) (0 : Int)) 0 < 2 ^ s; rw [e0]; exact hp,by
   show af ((List.replicate (X.length + 1) (0 : Int)).take 0) + pw 0 * at_ (List.replicate (X.length + 1) (0 : Int)) 0 = af (X.take 0) * 2 ^ s
   rw [e0]; simp [af]⟩
 ·exact Ai hX hs (by simpa using h) hr hl2 hL ho hv
 ·have hlt : p.1 < X.length:=by simpa using h
  show X.length - (p.1 + 1) < X.length - p.1
  omega
 ·have hge : X.length≤p.1:=by simpa using h
  have e : p.1 = X.length:=by omega
  have hLl : p.2.1.length = X.length + 1:=by rw [hr] at hl2; simpa using hl2
  rw [e,List.take_of_length_le (Nat.le_refl _),← bm (by omega),List.take_of_length_le (by omega)] at hv
  have e2 : wid (X.length + 1) (af X * 2 ^ s).toNat = p.2.1:=by rw [← hv,← hLl,lR hL]
  rw [e2]
  exact ja (.inl rfl) rfl rfl rfl (ai (congrArg (fun x=>some (AObj.row 1 4 x)) hr) aT)
theorem sT{l : List Int}{k : Nat}(h : Dg l)(hk : k≤l.length)(hl : k = 0∨at_ l (k - 1)≠0) : dig (af (l.take k)).toNat = l.take k:=by
 refine rT (h.take k) ?_
 rcases Nat.eq_zero_or_pos k with h0 | h0
 ·exact .inl (by rw [h0,List.take_zero])
 ·refine .inr ?_
  have e : (l.take k).length = k:=by simp; omega
  rw [e]
  have e2 : at_ (l.take k) (k - 1) = at_ l (k - 1):=by
   simp only [at_,List.getD_eq_getElem?_getD]
   rw [List.getElem?_take_of_lt (by omega)]
  rw [e2]
  exact hl.resolve_left (by omega)
theorem KX(l : List Int)(n : Nat)(hn : n≤l.length)(h : Dg l)(hl : l.length≤1000) : CallA Tryz.prog 374 [.one (.own 1000000 n)] [(1000000,.row 1 4 (l.map ak))] (.one (.own 1000000 (dig (af (l.take n)).toNat).length)) [(1000000,.row 1 4 (l.map ak))]:=by
 refine enter ae Tryz.func374 rfl (by decide +kernel) rfl fun hok w0 σ0 φ0 M=>?_
 clear hok
 repeat' (first|(refine h1H ?_; (refine h9H ?_; refine s_e aq J J J (eM J J J J J J wB wB (by simp; omega)) ?_))|(refine h1H ?_; (refine I2 ?_; refine s_e aq J J J (db J J J J (iL (show ((k : Int) - 1).toNat < l.length from wB)) J) ?_))|refine wG ?_|(refine h1H ?_; (refine h5H ?_; refine aG J J J J (fun h=>?_) (fun h=>?_)))|(refine h4H ?_; first|refine ag J (fun h=>?_) (fun h=>?_)|refine b0 1 J [] aT (fun (k : Nat)=>[(0,.one (.own 1000000 k))]) (fun (k : Nat)=>[(1000000,.row 1 4 (l.map ak))]) (fun (k : Nat)=>k≤n∧af (l.take k) = af (l.take n)) (fun (k : Nat)=>k) n (q1Q J) wK ?_ (fun k ⟨hk,hv⟩=>?_))|(show Exists _; refine Exists.intro (((k : Int) - 1).toNat) ⟨?_,?_,wK,(q1Q J),aT⟩))
 ·exact ⟨Nat.le_refl _,rfl⟩
 ·have h0 : (0 : Int) < (k : Int):=of_decide_eq_true ‹decide (_ < _) = true›
  have e : ((k : Int) - 1).toNat = k - 1:=by omega
  rw [e]
  have hz:=vC (l:=l) (k:=k - 1) (by omega) (by rw [← e]; simpa using h)
  rw [show k - 1 + 1 = k by omega] at hz
  exact ⟨by omega,by rw [← hz,hv]⟩
 ·have h0 : (0 : Int) < (k : Int):=of_decide_eq_true ‹decide (_ < _) = true›
  omega
 ·have e : ((k : Int) - 1).toNat = k - 1:=by omega
  rw [← hv,sT ‹Dg l› (by omega) (.inr (by rw [← e]; simpa using h)),List.length_take,Nat.min_eq_left (by omega)]
 ·have h0 : ¬ (0 : Int) < (k : Int):=of_decide_eq_false (by simpa using h)
  rw [← hv,sT ‹Dg l› (by omega) (.inl (by omega)),List.length_take,Nat.min_eq_left (by omega)]
end Go.Proofs.YtpejdgkaapnekaaGreat
namespace Go.Proofs.YtpejdgkaapnekaaGreat
open Go Go.Abs
theorem IX{q v u V U E v' u' : Nat}(hv : v = V * E + v')(hu : u = U * E + u')(hu' : u' < E)(h : q * v≤u) : q * V≤U:=by
 have h1 : q * V * E≤q * v:=by rw [hv,Nat.mul_add,Nat.mul_assoc]; omega
 have h2 : u < (U + 1) * E:=by rw [hu,Nat.add_mul,Nat.one_mul]; omega
 have h3 : q * V * E < (U + 1) * E:=by omega
 have:=Nat.lt_of_mul_lt_mul_right h3
 omega
theorem IY{x v u V U E v' u' : Nat}(hv : v = V * E + v')(hv' : v' < E)(hu : u = U * E + u')(h : x * (V + 1)≤U) : x * v≤u:=by
 have h1 : x * v≤x * ((V + 1) * E):=Nat.mul_le_mul_left x (by rw [hv,Nat.add_mul,Nat.one_mul]; omega)
 have h2 : x * ((V + 1) * E)≤U * E:=by rw [← Nat.mul_assoc]; exact Nat.mul_le_mul_right E h
 omega
structure Guess (t v1 v2 u2 q qh rh : Nat) : Prop where
 eq : qh * v1 + rh = t
 ge : q≤qh
theorem Ad{t v1 v2 u2 q B : Nat}(hB : 0 < B)(h1 : 0 < v1)(h2 : v2 < B)(h3 : u2 < B)(h : q * (v1 * B + v2)≤t * B + u2) : Guess t v1 v2 u2 q (t / v1) (t % v1):=by
 refine ⟨by rw [Nat.mul_comm]; exact Nat.div_add_mod t v1,(Nat.le_div_iff_mul_le h1).2 ?_⟩
 have h4 : q * v1 * B≤t * B + u2:=Nat.le_trans (by rw [Nat.mul_add,Nat.mul_assoc]; omega) h
 have h5 : q * v1 * B < (t + 1) * B:=by rw [Nat.add_mul,Nat.one_mul]; omega
 have:=Nat.lt_of_mul_lt_mul_right h5
 omega
theorem CX{t v1 v2 u2 q qh rh B : Nat}(g : Guess t v1 v2 u2 q qh rh)(hq : q < B)(h : q * (v1 * B + v2)≤t * B + u2)(ht : B≤qh∨rh * B + u2 < qh * v2) : q < qh∧Guess t v1 v2 u2 q (qh - 1) (rh + v1):=by
 have hlt : q < qh:=by
  refine Nat.lt_of_le_of_ne g.ge fun e=>?_
  rcases ht with ht | ht
  ·omega
  ·subst e
   have e1 : q * (v1 * B + v2) = q * v1 * B + q * v2:=by rw [Nat.mul_add,Nat.mul_assoc]
   have e2 : t * B = q * v1 * B + rh * B:=by rw [← g.eq,Nat.add_mul]
   omega
 refine ⟨hlt,?_,by omega⟩
 have:=g.eq
 obtain ⟨k,rfl⟩ : ∃ k,qh = k + 1:=⟨qh - 1,by omega⟩
 rw [Nat.add_mul,Nat.one_mul] at this
 rw [Nat.add_sub_cancel]
 omega
theorem CY{t v1 v2 u2 q qh rh B : Nat}(g : Guess t v1 v2 u2 q qh rh)(hB : 0 < B)(h1 : 0 < v1)(hqB : qh < B)(ht : qh * v2≤rh * B + u2) : (qh - 1) * (v1 * B + v2 + 1)≤t * B + u2:=by
 rcases Nat.eq_zero_or_pos qh with h0 | h0
 ·subst h0; simp
 ·obtain ⟨k,rfl⟩ : ∃ k,qh = k + 1:=⟨qh - 1,by omega⟩
  have e:=g.eq
  rw [Nat.add_sub_cancel]
  have e1 : k * (v1 * B + v2 + 1) = k * v1 * B + k * v2 + k:=by rw [Nat.mul_add,Nat.mul_add,Nat.mul_assoc,Nat.mul_one]
  have e2 : t * B = k * v1 * B + v1 * B + rh * B:=by rw [← e,Nat.add_mul,Nat.add_mul,Nat.add_mul,Nat.one_mul]
  have e3 : (k + 1) * v2 = k * v2 + v2:=by rw [Nat.add_mul,Nat.one_mul]
  have e4 : B≤v1 * B:=Nat.le_mul_of_pos_left B h1
  omega
theorem CZ{t v1 v2 u2 q qh rh B : Nat}(g : Guess t v1 v2 u2 q qh rh)(h2 : v2 < B)(hqB : qh≤B)(hr : B≤rh) : qh * (v1 * B + v2 + 1)≤t * B + u2:=by
 have e:=g.eq
 have e1 : qh * (v1 * B + v2 + 1) = qh * v1 * B + qh * (v2 + 1):=by rw [Nat.add_assoc,Nat.mul_add,Nat.mul_assoc]
 have e2 : t * B = qh * v1 * B + rh * B:=by rw [← e,Nat.add_mul]
 have e3 : qh * (v2 + 1)≤qh * B:=Nat.mul_le_mul_left qh h2
 have e4 : qh * B≤B * B:=Nat.mul_le_mul_right B hqB
 have e5 : B * B≤rh * B:=Nat.mul_le_mul_right B hr
 omega
theorem Dt{u0 u1 v1 B : Nat}(h1 : 0 < v1)(hu0 : u0≤v1)(hu1 : u1 < B)(hn : B≤2 * v1) : (u0 * B + u1) / v1≤B + 1:=by
 refine Nat.le_of_lt_succ ((Nat.div_lt_iff_lt_mul h1).2 ?_)
 have e1 : u0 * B≤v1 * B:=Nat.mul_le_mul_right B hu0
 have e2 : (B + 1).succ * v1 = v1 * B + 2 * v1:=by rw [Nat.succ_mul,Nat.add_mul,Nat.mul_comm B v1]; omega
 omega
def mdT(c g y : Int) : Int:=IntKind.u64.wrap (c + IntKind.u64.wrap (g * IntKind.u64.wrap y))
theorem Kk{c x y : Int}(hc : 0≤c∧c < 4294967296)(hx : 0≤x∧x < 4294967296)(hy : 0≤y∧y < 4294967296) : mdT c x y = c + x * y∧0≤c + x * y∧c + x * y≤18446744073709551615:=by
 have h:=yT hx hy
 unfold mdT
 rw [cB hy.1 (by omega),cB h.1 (by omega),cB (by omega) (by omega)]
 omega
theorem mI{l : List Int}{k : Nat}{x : Int}(h : k < l.length) : at_ (l.set k x) k = x:=by simp [at_,h]
theorem A8{l : List Int}{k : Nat}(h : Dg l)(hz : ∀ t,k≤t→at_ l t = 0) : af l < pw k:=by
 have e : af l = af (l.take k) + pw (l.take k).length * af (l.drop k):=by rw [← jT,List.take_append_drop]
 have e2 : ∀ (m : List Int),(∀ t,at_ m t = 0)→af m = 0:=by
  intro m
  induction m with
  | nil=>intro _; rfl
  | cons d r ih =>
    intro hm
    have h0 : d = 0:=hm 0
    have h1:=ih (fun t=>hm (t + 1))
    simp only [af,h0,h1]; rfl
 rw [e2 (l.drop k) (fun t=>by
  have:=hz (k + t) (by omega)
  simp only [at_,List.getD_eq_getElem?_getD,List.getElem?_drop] at this ⊢
  exact this)] at e
 have h1:=(dh (h.take k)).2
 have h2 : pw (l.take k).length≤pw k:=by
  obtain ⟨m,hm⟩ : ∃ m,k = (l.take k).length + m:=⟨k - (l.take k).length,by simp; omega⟩
  have hp:=ez m
  conv=>rhs; rw [hm,gF]
  have:=Int.mul_le_mul_of_nonneg_left (show 1≤pw m by omega) (Int.le_of_lt (ez (l.take k).length))
  omega
 omega
theorem If{V L : List Int}{R : List (List D)}{N : Nat}{lo j n : Nat}{qh b c K : Int}(hV : Dg V)(hq : 0≤qh∧qh < 4294967296)(hn : V.length = n)(hj : j < n)(hlo : lo + n + 1≤N)(hr : R = L.map ak)(hl : R.length = N)(hL : Dg L)(hb : 0≤b∧b≤1)(hc : 0≤c∧c < 4294967296)
  (hz : ∀ t,lo + n + 1≤t→at_ L t = 0) (hv : af L + pw lo * (qh * af (V.take j)) = K + pw (lo + j) * (b + c)) :
  j + 1≤n∧R.set (lo + j) [.int .u32 ((at_ L (lo + j) - IntKind.u32.wrap (mdT c qh (at_ V j)) - b) % 4294967296)] = (L.set (lo + j) ((at_ L (lo + j) - IntKind.u32.wrap (mdT c qh (at_ V j)) - b) % 4294967296)).map ak ∧
  (R.set (lo + j) [.int .u32 ((at_ L (lo + j) - IntKind.u32.wrap (mdT c qh (at_ V j)) - b) % 4294967296)]).length = N∧Dg (L.set (lo + j) ((at_ L (lo + j) - IntKind.u32.wrap (mdT c qh (at_ V j)) - b) % 4294967296)) ∧
  (0≤(if at_ L (lo + j) < IntKind.u32.wrap (mdT c qh (at_ V j)) + b then (1 : Int) else 0)∧(if at_ L (lo + j) < IntKind.u32.wrap (mdT c qh (at_ V j)) + b then (1 : Int) else 0)≤1) ∧
  (0≤(mdT c qh (at_ V j)).fdiv (2 ^ min (Int.toNat 32) IntKind.u64.bits)∧(mdT c qh (at_ V j)).fdiv (2 ^ min (Int.toNat 32) IntKind.u64.bits) < 4294967296) ∧
  (∀ t,lo + n + 1≤t→at_ (L.set (lo + j) ((at_ L (lo + j) - IntKind.u32.wrap (mdT c qh (at_ V j)) - b) % 4294967296)) t = 0) ∧
  af (L.set (lo + j) ((at_ L (lo + j) - IntKind.u32.wrap (mdT c qh (at_ V j)) - b) % 4294967296)) + pw lo * (qh * af (V.take (j + 1))) = K + pw (lo + (j + 1)) * ((if at_ L (lo + j) < IntKind.u32.wrap (mdT c qh (at_ V j)) + b then (1 : Int) else 0) + (mdT c qh (at_ V j)).fdiv (2 ^ min (Int.toNat 32) IntKind.u64.bits)):=by
 have hLl : L.length = N:=by rw [hr] at hl; simpa using hl
 have hk : lo + j < L.length:=by omega
 obtain ⟨e,h0,h1⟩:=Kk hc hq (hV.at (i:=j) (by omega))
 have hx:=hL.at hk
 rw [iG,xJ]
 refine ⟨hj,ej hr,by simpa using hl,hL.set (by omega),by split <;> omega,by omega,fun t ht=>by rw [dV (by omega)]; exact hz t ht,?_⟩
 rw [ko hk,bm (by omega),show lo + (j + 1) = (lo + j) + 1 by omega,c5]
 generalize mdT c qh (at_ V j) = T at e ⊢
 have e1 : (at_ L (lo + j) - T % 4294967296 - b) % 4294967296 = at_ L (lo + j) - T % 4294967296 - b + 4294967296 * (if at_ L (lo + j) < T % 4294967296 + b then (1 : Int) else 0):=by split <;> omega
 rw [e1]
 generalize (if at_ L (lo + j) < T % 4294967296 + b then (1 : Int) else 0) = b'
 have e3 : T % 4294967296 + 4294967296 * (T / 4294967296) = T:=by omega
 generalize T % 4294967296 = r at e3 ⊢
 generalize T / 4294967296 = q at e3 ⊢
 have e5 : pw lo * (qh * (af (V.take j) + pw j * at_ V j)) = pw lo * (qh * af (V.take j)) + pw (lo + j) * (qh * at_ V j):=by
  rw [Int.mul_add,Int.mul_add,gF,Int.mul_assoc (pw lo) (pw j),Int.mul_left_comm qh (pw j)]
 have e6 : qh * at_ V j = r + 4294967296 * q - c:=by omega
 rw [e5,e6]
 generalize pw (lo + j) = P at hv ⊢
 generalize at_ L (lo + j) = x
 rw [show x - r - b + 4294967296 * b' - x = 4294967296 * b' - (r + b) by omega,show r + 4294967296 * q - c = 4294967296 * q + (r - c) by omega]
 have e7 : P * (4294967296 * b' - (r + b)) = 4294967296 * P * b' - P * (r + b):=by rw [Int.mul_sub,← Int.mul_assoc,Int.mul_comm P 4294967296]
 have e8 : P * (4294967296 * q + (r - c)) = 4294967296 * P * q + P * (r - c):=by rw [Int.mul_add,← Int.mul_assoc,Int.mul_comm P 4294967296]
 have e9 : 4294967296 * P * (b' + q) = 4294967296 * P * b' + 4294967296 * P * q:=Int.mul_add _ _ _
 rw [e7,e8,e9]
 simp only [Int.mul_add,Int.mul_sub] at hv ⊢
 omega
theorem Kl{V L : List Int}{R : List (List D)}{N : Nat}{lo n : Nat}{qh b c K : Int}(hn : V.length = n)(hlo : lo + n + 1≤N)(hr : R = L.map ak)(hl : R.length = N)(hL : Dg L)(hb : 0≤b∧b≤1)(hc : 0≤c∧c < 4294967296)
  (hz : ∀ t,lo + n + 1≤t→at_ L t = 0) (hv : af L + pw lo * (qh * af (V.take n)) = K + pw (lo + n) * (b + c)) :
  R.set (lo + n) [.int .u32 ((at_ L (lo + n) - c - b) % 4294967296)] = (L.set (lo + n) ((at_ L (lo + n) - c - b) % 4294967296)).map ak ∧
  (R.set (lo + n) [.int .u32 ((at_ L (lo + n) - c - b) % 4294967296)]).length = N∧Dg (L.set (lo + n) ((at_ L (lo + n) - c - b) % 4294967296)) ∧
  (∀ t,lo + n + 1≤t→at_ (L.set (lo + n) ((at_ L (lo + n) - c - b) % 4294967296)) t = 0) ∧
  af (L.set (lo + n) ((at_ L (lo + n) - c - b) % 4294967296)) + pw lo * (qh * af V) = K + pw (lo + n + 1) * (if at_ L (lo + n) < c + b then (1 : Int) else 0):=by
 have hLl : L.length = N:=by rw [hr] at hl; simpa using hl
 have hk : lo + n < L.length:=by omega
 have hx:=hL.at hk
 refine ⟨ej hr,by simpa using hl,hL.set (by omega),fun t ht=>by rw [dV (by omega)]; exact hz t ht,?_⟩
 rw [List.take_of_length_le (by omega)] at hv
 rw [ko hk,c5]
 have e1 : (at_ L (lo + n) - c - b) % 4294967296 = at_ L (lo + n) - c - b + 4294967296 * (if at_ L (lo + n) < c + b then (1 : Int) else 0):=by split <;> omega
 rw [e1]
 generalize (if at_ L (lo + n) < c + b then (1 : Int) else 0) = b'
 generalize pw (lo + n) = P at hv ⊢
 generalize at_ L (lo + n) = x
 rw [show x - c - b + 4294967296 * b' - x = 4294967296 * b' - (b + c) by omega]
 have e7 : P * (4294967296 * b' - (b + c)) = 4294967296 * P * b' - P * (b + c):=by rw [Int.mul_sub,← Int.mul_assoc,Int.mul_comm P 4294967296]
 rw [e7]
 omega
theorem Ig{V L : List Int}{R : List (List D)}{N : Nat}{lo j n : Nat}{s K : Int}(hV : Dg V)(hn : V.length = n)(hj : j < n)(hlo : lo + n + 1≤N)(hr : R = L.map ak)(hl : R.length = N)(hL : Dg L)(hs : 0≤s∧s≤1)
  (hz : ∀ t,lo + n + 1≤t→at_ L t = 0) (hv : af L + pw (lo + j) * s = K + pw lo * af (V.take j)) :
  j + 1≤n∧R.set (lo + j) [.int .u32 ((at_ L (lo + j) + at_ V j + s) % 4294967296)] = (L.set (lo + j) ((at_ L (lo + j) + at_ V j + s) % 4294967296)).map ak ∧
  (R.set (lo + j) [.int .u32 ((at_ L (lo + j) + at_ V j + s) % 4294967296)]).length = N∧Dg (L.set (lo + j) ((at_ L (lo + j) + at_ V j + s) % 4294967296)) ∧
  (0≤(at_ L (lo + j) + at_ V j + s) / 4294967296∧(at_ L (lo + j) + at_ V j + s) / 4294967296≤1)∧(∀ t,lo + n + 1≤t→at_ (L.set (lo + j) ((at_ L (lo + j) + at_ V j + s) % 4294967296)) t = 0) ∧
  af (L.set (lo + j) ((at_ L (lo + j) + at_ V j + s) % 4294967296)) + pw (lo + (j + 1)) * ((at_ L (lo + j) + at_ V j + s) / 4294967296) = K + pw lo * af (V.take (j + 1)):=by
 have hLl : L.length = N:=by rw [hr] at hl; simpa using hl
 have hk : lo + j < L.length:=by omega
 have hx:=hL.at hk
 have hy:=hV.at (i:=j) (by omega)
 refine ⟨hj,ej hr,by simpa using hl,hL.set (by omega),by omega,fun t ht=>by rw [dV (by omega)]; exact hz t ht,?_⟩
 rw [ko hk,bm (by omega),show lo + (j + 1) = (lo + j) + 1 by omega,c5,Int.mul_add (pw lo),← Int.mul_assoc (pw lo),← gF]
 have e3 : (at_ L (lo + j) + at_ V j + s) % 4294967296 - at_ L (lo + j) = at_ V j + s - 4294967296 * ((at_ L (lo + j) + at_ V j + s) / 4294967296):=by omega
 rw [e3]
 generalize (at_ L (lo + j) + at_ V j + s) / 4294967296 = q
 generalize pw (lo + j) = P at hv ⊢
 have e7 : P * (at_ V j + s - 4294967296 * q) = P * at_ V j + P * s - 4294967296 * P * q:=by rw [Int.mul_sub,Int.mul_add,← Int.mul_assoc,Int.mul_comm P 4294967296]
 rw [e7]
 omega
theorem Km{V L : List Int}{R : List (List D)}{N : Nat}{lo n : Nat}{s K : Int}(hn : V.length = n)(hlo : lo + n + 1≤N)(hr : R = L.map ak)(hl : R.length = N)(hL : Dg L)(hs : 0≤s∧s≤1)
  (hz : ∀ t,lo + n + 1≤t→at_ L t = 0) (hv : af L + pw (lo + n) * s = K + pw lo * af (V.take n)) :
  R.set (lo + n) [.int .u32 (IntKind.u32.wrap (at_ L (lo + n) + s))] = (L.set (lo + n) (IntKind.u32.wrap (at_ L (lo + n) + s))).map ak∧(L.set (lo + n) (IntKind.u32.wrap (at_ L (lo + n) + s))).length = N ∧
  Dg (L.set (lo + n) (IntKind.u32.wrap (at_ L (lo + n) + s)))∧(∀ t,lo + n + 1≤t→at_ (L.set (lo + n) (IntKind.u32.wrap (at_ L (lo + n) + s))) t = 0) ∧
  ∃ k : Int,0≤k∧k≤1∧af (L.set (lo + n) (IntKind.u32.wrap (at_ L (lo + n) + s))) + pw (lo + n + 1) * k = K + pw lo * af V:=by
 have hLl : L.length = N:=by rw [hr] at hl; simpa using hl
 have hk : lo + n < L.length:=by omega
 have hx:=hL.at hk
 rw [iG]
 refine ⟨ej hr,by simpa using hLl,hL.set (by omega),fun t ht=>by rw [dV (by omega)]; exact hz t ht,(at_ L (lo + n) + s) / 4294967296,by omega,by omega,?_⟩
 rw [List.take_of_length_le (by omega)] at hv
 rw [ko hk,c5]
 have e3 : (at_ L (lo + n) + s) % 4294967296 - at_ L (lo + n) = s - 4294967296 * ((at_ L (lo + n) + s) / 4294967296):=by omega
 rw [e3]
 generalize (at_ L (lo + n) + s) / 4294967296 = q
 generalize pw (lo + n) = P at hv ⊢
 have e7 : P * (s - 4294967296 * q) = P * s - 4294967296 * P * q:=by rw [Int.mul_sub,← Int.mul_assoc,Int.mul_comm P 4294967296]
 rw [e7]
 omega
theorem Gp{N M L P q qh : Int}(hM : 0 < M)(hq : q = N / M)(h1 : q≤qh)(hL : 0≤L)(hv : L + qh * M = N) : qh = q∧L = N % M:=by
 have h2 : qh≤N / M:=(Int.le_ediv_iff_mul_le hM).2 (by omega)
 have e : qh = q:=by omega
 have:=Int.emod_def N M
 refine ⟨e,?_⟩
 rw [this,← hq,← e,Int.mul_comm M qh]; omega
theorem Ih{N M L P q qh : Int}(hM : 0 < M)(hq : q = N / M)(h2 : qh≤q + 1)(h1 : q≤qh)(hL : L < P)(hv : L + qh * M = N + P) : qh = q + 1:=by
 refine Classical.byContradiction fun hc=>?_
 have e : qh = q:=by omega
 have h3:=Int.ediv_mul_le N (b:=M) (by omega)
 rw [← hq,← e] at h3
 omega
theorem Ii{N M L L2 P q qh k : Int}(hM : 0 < M)(hP : M≤P)(hq : q = N / M)(h1 : qh = q + 1)(hv : L + qh * M = N + P)(hk : 0≤k∧k≤1)(hL2 : 0≤L2∧L2 < P)(hv2 : L2 + P * k = L + M) : L2 = N % M:=by
 have e:=Int.emod_def N M
 rw [← hq,Int.mul_comm] at e
 have b1:=Int.emod_nonneg N (show M≠0 by omega)
 have b2:=Int.emod_lt_of_pos N hM
 rw [h1,Int.add_mul,Int.one_mul] at hv
 have hk' : k = 0∨k = 1:=by omega
 rcases hk' with rfl | rfl
 ·rw [Int.mul_zero] at hv2; omega
 ·rw [Int.mul_one] at hv2; omega
end Go.Proofs.YtpejdgkaapnekaaGreat
namespace Go.Abs
open Go
variable {P : Program} {V : Env} {T : Tab} {st : St} {o : Oper} {σ : Sig} {φ : Pl} {sto : Sto}
theorem mb{t e : TypeId}{x y : Operand}{id lo m k k' b b' : Nat}{ik : IntKind}{i : Int}{xs : List (List D)}{z : List D}(ho : o.op = .indexAddr t x y)(ht : aR V.T t = some (e,k',b',z))(hx : ev st x = some (.one (.sub id lo m)))
  (hl : look st.sto id = some (.row k b xs)) (hk : Nat.beq k k' = true) (hy : ev st y = some (.one (.d (.int ik i)))) (h0 : 0≤i) (hm : i < (m : Int)) : aQ V st o 0 = some ⟨.one (.rref id (lo + i.toNat) 0),[],[]⟩:=by
 simp only [aQ,cF,bQ,ho,cj,oo,hx,hy,ht,hl,hk,h0,hm,decide_true,cond_true,Bool.and_self]
theorem HU{w : World}(hI : HInv σ φ sto w){id n : Nat}{v : Value}(hin : bf sto id = true)(h : RepC σ φ sto (.own id n) v) : RepC σ φ sto (.sub id 0 n) v:=by
 cases h with
 | ownNil h hp=>exact RepC.sub h (Nat.zero_le _) (Nat.le_refl _) (fun hc=>absurd hc (by omega))
 | own h hn hp =>
   rcases hI.obj _ _ h with ⟨h1,h2⟩ | ⟨B',cap',arr,t,vs,h1,_,_,h2,_⟩
   ·rw [h2] at hp; cases hp
   ·rw [hp] at h1; cases h1
    exact RepC.sub h (by omega) (by omega) (fun _=>⟨_,_,hp,by simp⟩)
 | dead hx _=>simp [bx,hin] at hx
end Go.Abs
