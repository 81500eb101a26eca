import Derived.Test.YtpejdgkaapnekaaGreatJP19
import Derived.Test.YtpejdgkaapnekaaGreatJP17
import Derived.Test.YtpejdgkaapnekaaGreatJP18
import Derived.Test.YtpejdgkaapnekaaGreatJP16
set_option linter.unusedVariables false
set_option linter.unusedSimpArgs false
set_option maxHeartbeats 1000000
namespace Go.Proofs.YtpejdgkaapnekaaGreat
open Go Go.Abs
attribute [local irreducible] aa OkC aq aC ax aS
set_option maxRecDepth 10000
def kN(a b : Arr)(i k : Nat) : List Cell:=(a.cells.take i).flatMap (fc a b) ++ ((b.cells.take k).filter (bB a.dims b.dims (at_ a.cells i))).map (kZ a.dims b.dims (at_ a.cells i))
def k9(ad bd : List Dim)(c d : Cell)(j : Nat) : Bool:=(ey ad bd j).all fun i=>at_ c.at' (bk ad (at_ bd i).name).toNat == at_ d.at' i
section
variable {a b : Arr}
theorem wz : kN a b 0 0 = []:=by simp [kN]
theorem DR{i : Nat}(hi : i < a.cells.length){k : Nat}(hk : b.cells.length≤k) : kN a b i k = kN a b (i + 1) 0:=by
 unfold kN
 rw [ch hi,List.flatMap_append,List.take_of_length_le hk]
 simp [fc]
theorem DS{i : Nat}(hi : a.cells.length≤i) : kN a b i 0 = cI a b:=by
 unfold kN cI
 rw [List.take_of_length_le hi]
 simp
theorem uc{i k : Nat}(hk : k < b.cells.length)(h : bB a.dims b.dims (at_ a.cells i) (at_ b.cells k) = true) : kN a b i (k + 1) = kN a b i k ++ [kZ a.dims b.dims (at_ a.cells i) (at_ b.cells k)]:=by
 unfold kN
 rw [ch hk,List.filter_append,List.map_append,List.append_assoc]
 simp [h]
theorem Ce{i k : Nat}(hk : k < b.cells.length)(h : bB a.dims b.dims (at_ a.cells i) (at_ b.cells k) = false) : kN a b i (k + 1) = kN a b i k:=by
 unfold kN
 rw [ch hk,List.filter_append,List.map_append]
 simp [h]
theorem EN{i k : Nat}(hi : i < a.cells.length) : (kN a b i k).length≤(cI a b).length:=by
 have h1 : cI a b = (a.cells.take (i + 1)).flatMap (fc a b) ++ (a.cells.drop (i + 1)).flatMap (fc a b):=by
  unfold cI
  rw [← List.flatMap_append,List.take_append_drop]
 have h2 : ((b.cells.take k).filter (bB a.dims b.dims (at_ a.cells i))).length≤(b.cells.filter (bB a.dims b.dims (at_ a.cells i))).length:=((List.take_sublist k b.cells).filter _).length_le
 rw [h1,ch hi,List.flatMap_append]
 unfold kN
 simp only [List.length_append,List.length_map,List.flatMap_cons,List.flatMap_nil,List.append_nil,fc]
 omega
end
section
variable {ad bd : List Dim} {c d : Cell}
theorem wA{j : Nat}(h : inD ad (at_ bd j).name = true) : k9 ad bd c d (j + 1) = (k9 ad bd c d j && (at_ c.at' (bk ad (at_ bd j).name).toNat == at_ d.at' j)):=by
 unfold k9; rw [gz,if_pos h,List.all_append]; simp
theorem Bi{j : Nat}(h : inD ad (at_ bd j).name = false) : k9 ad bd c d (j + 1) = k9 ad bd c d j:=by
 unfold k9; rw [gz,if_neg (by simp [h])]
theorem pj : k9 ad bd c d bd.length = bB ad bd c d:=matC_all.symm
end
theorem CO{ad bd : List Dim}{j : Nat}{l : List Int}(h : inD ad (at_ bd j).name = false) : ar l (bA ad bd (j + 1)) = ar l (bA ad bd j) ++ [at_ l j]:=by
 unfold bA; rw [eR,if_neg (by simp [h])]; simp [ar]
theorem zu{ad bd : List Dim}{j : Nat}{l : List Int}(h : inD ad (at_ bd j).name = true) : ar l (bA ad bd (j + 1)) = ar l (bA ad bd j):=by
 unfold bA; rw [eR,if_pos h]
theorem ud{ad : List Dim}{n : List UInt8}(h : decide (aD (fun d : Dim=>d.name == n) ad 0 < 0) = true) : inD ad n = false:=by
 have h' : bk ad n < 0:=of_decide_eq_true h
 unfold inD; exact decide_eq_false (by omega)
theorem tm{ad : List Dim}{n : List UInt8}(h : decide (aD (fun d : Dim=>d.name == n) ad 0 < 0) = false) : inD ad n = true:=by
 have h' : ¬ bk ad n < 0:=of_decide_eq_false h
 unfold inD; exact decide_eq_true (by omega)
theorem Bj{ad bd : List Dim}(c d : Cell){n : Nat}{rows : List (List D)}(h1 : n = rows.length)(h2 : rows = (c.at' ++ ar d.at' (aV ad bd)).map aB) :
  [D.sl 1 8 (List.take n rows),D.sl 4 40 (List.take (0 + (c.vals.map aQ).length + (d.vals.map aQ).length) (List.take (0 + (c.vals.map aQ).length) (List.take 0 [] ++ c.vals.map aQ) ++ d.vals.map aQ))] = af (kZ ad bd c d):=by
 rw [List.take_of_length_le (l:=rows) (by omega),h2,List.take_zero,List.nil_append,List.take_of_length_le (l:=c.vals.map aQ) (by omega),List.take_of_length_le (by simp),← List.map_append]
 rfl
def qf(a b : Arr) : AV:=if 4096 < (cI a b).length then .tup [(false,[.d .nil]),(false,[.d (.bool false)])] else .tup [(false,[.d (ak (cI a b))]),(false,[.d (.bool true)])]
set_option maxHeartbeats 4000000 in
theorem DT(a b : Arr)(ha : OkA a.dims a.attrs a.cells)(hb : OkA b.dims b.attrs b.cells) : CallA Tryz.prog 214 [aO a,aO b] [] (qf a b) []:=by
 unfold aO
 refine enter ag Tryz.func214 rfl (by decide +kernel) rfl fun hok w0 σ0 φ0 M=>?_
 clear hok
 have hfa:=ha.few
 have hfb:=hb.few
 have hb4:=hb.dims.2.1
 have ha4:=ha.dims.2.1
 have ha6:=(bg ha.sch).2.2.1
 have hb6:=(bg hb.sch).2.2.1
 have hmP : ∀ {n : List UInt8},decide (aD (fun d : Dim=>d.name == n) a.dims 0 < 0) = false→0≤aD (fun d : Dim=>d.name == n) a.dims 0:=fun h=>(wC h).1
 have hmA : ∀ i (n : List UInt8),i < a.cells.length→decide (aD (fun d : Dim=>d.name == n) a.dims 0 < 0) = false→(aD (fun d : Dim=>d.name == n) a.dims 0).toNat < (at_ a.cells i).at'.length:=fun i n hi h=>by
  rw [(cellF_ok.1 (ha.cel _ (aX hi))).1]; exact (wC h).2
 have hmB : ∀ k j,k < b.cells.length→j < b.dims.length→j < (at_ b.cells k).at'.length:=fun k j hk hj=>by
  rw [(cellF_ok.1 (hb.cel _ (aX hk))).1]; exact hj
 have hyA : ∀ i,i < a.cells.length→((at_ a.cells i).at'.map aB).length≤100000:=fun i hi=>by rw [List.length_map,(cellF_ok.1 (ha.cel _ (aX hi))).1]; omega
 have hyV : ∀ i,i < a.cells.length→((at_ a.cells i).vals.map aQ).length≤100000:=fun i hi=>by rw [List.length_map,(cellF_ok.1 (ha.cel _ (aX hi))).2.1]; omega
 have hyM : ∀ i,i < a.cells.length→0 + ((at_ a.cells i).vals.map aQ).length≤100000000:=fun i hi=>by have:=hyV i hi; omega
 have hyW : ∀ i,i < b.cells.length→((at_ b.cells i).vals.map aQ).length≤100000:=fun i hi=>by rw [List.length_map,(cellF_ok.1 (hb.cel _ (aX hi))).2.1]; omega
 repeat' (first|(refine h1H ?_; (refine h0H ?_; first|refine iG ag J J J J J J J J J J J J J (Nat.zero_le _) (hyA _ wB) (Nat.le_of_ble_eq_true J) ?_|refine iG ag J J J J J J J J J J J J J (Nat.zero_le _) (hyV _ wB) (Nat.le_of_ble_eq_true J) ?_|refine iG ag J J J J J J J J J J J J J (hyM _ wB) (hyW _ wB) (Nat.le_of_ble_eq_true J) ?_))|(refine h1H ?_; (refine FH ?_; refine gX envOk 6 (v:=.one (.own 6 1)) (wr:=[(6,some (.row 2 48 [[.sl 1 8 (List.take w.2.1 w.2.2.1),.sl 4 40 (List.take (0 + ((at_ a.cells (u.1 : Int).toNat).vals.map aQ).length + ((at_ b.cells (v.1 : Int).toNat).vals.map aQ).length) (List.take (0 + ((at_ a.cells (u.1 : Int).toNat).vals.map aQ).length) (List.take 0 [] ++ ((at_ a.cells (u.1 : Int).toNat).vals.map aQ)) ++ ((at_ b.cells (v.1 : Int).toNat).vals.map aQ)))]])),(4,none),(5,none)]) J J J J J J ?_))|(refine h1H ?_; (refine tY ?_; refine s_e envOk J J J (cr J J J J J (Int.natCast_nonneg _) (db (hmB _ _ wB wB))) ?_))|(refine h5H ?_; first|(show OkC _ _ (Code.region 7 _ _) (St.mk _ (cg _ _ _)) _; refine bm (l9 (st':=⟨[(6,.one (.own 10 (v.2.1 + 1))),(8,_),(2,_),(3,_),(7,_)],[(10,.row 2 48 (List.take v.2.1 v.2.2 ++ [[.sl 1 8 (List.take w.2.1 w.2.2.1),.sl 4 40 (List.take (0 + ((at_ a.cells (u.1 : Int).toNat).vals.map aQ).length + ((at_ b.cells (v.1 : Int).toNat).vals.map aQ).length) (List.take (0 + ((at_ a.cells (u.1 : Int).toNat).vals.map aQ).length) (List.take 0 [] ++ ((at_ a.cells (u.1 : Int).toNat).vals.map aQ)) ++ ((at_ b.cells (v.1 : Int).toNat).vals.map aQ)))]])),(0,_),(1,_)]⟩) (q5Q J J J J J) (q3Q J J J)) ?_)|refine bm (br (dl:=[10]) J) (bV ?_))|(refine h3H ?_; (refine h8H ?_; first|refine d_e envOk J J J (cr J J J J J (hmP (by assumption)) (db (hmA _ _ wB (by assumption)))) ?_|refine d_e envOk J J J (cr J J J J J (Int.natCast_nonneg _) (db (hmB _ _ wB wB))) ?_))|(refine h3H ?_; (refine h2H ?_; refine d_l J J (bw J J J J J J (ml _ _) J) ?_))|refine wG ?_|(refine h5H ?_; first|refine ao J (fun h=>?_) (fun h=>?_)|refine dy 3 J (ej (s:=6) (id:=10) (k:=2) (b:=48) J J J J) [(2,_),(3,_)] (q2Q J J) (fun (bN : Bool×Bool) (u : Nat×Nat×List (List D))=>[(6,.one (.own 10 u.2.1)),(7,.one (.d (.int .i64 (u.1 : Int))))]) (fun (bN : Bool×Bool) (u : Nat×Nat×List (List D))=>[(10,.row 2 48 u.2.2),(0,.box [.d (aj a.dims),.d (ai a.attrs),.d (ak a.cells)]),(1,.box [.d (aj b.dims),.d (ai b.attrs),.d (ak b.cells)])]) (fun (u : Nat×Nat×List (List D))=>u.1≤a.cells.length∧u.2.1 = (kN a b u.1 0).length∧u.2.1≤4096∧u.2.2 = (kN a b u.1 0).map af) (fun (u : Nat×Nat×List (List D))=>a.cells.length - u.1) (0,0,[]) (q2Q J J) wK (fun b y=>by obtain ⟨b1,b2⟩:=b; cases b1 <;> cases b2 <;> first|exact Imp.refl _|exact dz qN (by kernel_rfl)) ?_ (fun u ⟨hu1,hu2,hu3,hu4⟩=>?_)|refine dy 6 J (Imp.refl _) [(2,_),(3,_),(7,_)] (q3Q J J J) (fun (bN : Bool×Bool) (v : Nat×Nat×List (List D))=>[(6,.one (.own 10 v.2.1)),(8,.one (.d (.int .i64 (v.1 : Int))))]) (fun (bN : Bool×Bool) (v : Nat×Nat×List (List D))=>[(10,.row 2 48 v.2.2),(0,.box [.d (aj a.dims),.d (ai a.attrs),.d (ak a.cells)]),(1,.box [.d (aj b.dims),.d (ai b.attrs),.d (ak b.cells)])]) (fun (v : Nat×Nat×List (List D))=>v.1≤b.cells.length∧v.2.1 = (kN a b u.1 v.1).length∧v.2.1≤4096∧v.2.2 = (kN a b u.1 v.1).map af) (fun (v : Nat×Nat×List (List D))=>b.cells.length - v.1) (0,u.2) (q2Q J J) wK (fun b y=>by obtain ⟨b1,b2⟩:=b; cases b1 <;> cases b2 <;> first|exact Imp.refl _|exact dz qN (by kernel_rfl)) ?_ (fun v ⟨hv1,hv2,hv3,hv4⟩=>?_)|refine dy 12 J (Imp.refl _) [(2,_),(3,_),(6,_),(7,_),(8,_),(9,_),(10,_)] (q7Q J J J J J J J) (fun (bN : Bool×Bool) (w : Nat×Nat×List (List D)×Bool)=>[(11,.one (.own 4 w.2.1)),(12,.one (.d (.bool w.2.2.2))),(13,.one (.d (.int .i64 (w.1 : Int))))]) (fun (bN : Bool×Bool) (w : Nat×Nat×List (List D)×Bool)=>[(4,.row 1 8 w.2.2.1),(2,.box [.d (aF (at_ a.cells u.1).at'),.d (bM (at_ a.cells u.1).vals)]),(3,.box [.d (aF (at_ b.cells v.1).at'),.d (bM (at_ b.cells v.1).vals)]),(10,.row 2 48 v.2.2),(0,.box [.d (aj a.dims),.d (ai a.attrs),.d (ak a.cells)]),(1,.box [.d (aj b.dims),.d (ai b.attrs),.d (ak b.cells)])]) (fun (w : Nat×Nat×List (List D)×Bool)=>w.1≤b.dims.length∧w.2.1≤a.dims.length + w.1∧w.2.1 = w.2.2.1.length∧w.2.2.1 = ((at_ a.cells u.1).at' ++ ar (at_ b.cells v.1).at' (bA a.dims b.dims w.1)).map aB∧w.2.2.2 = k9 a.dims b.dims (at_ a.cells u.1) (at_ b.cells v.1) w.1) (fun (w : Nat×Nat×List (List D)×Bool)=>b.dims.length - w.1) (0,0 + ((at_ a.cells u.1).at'.map aB).length,List.take 0 [] ++ (at_ a.cells u.1).at'.map aB,true) (q3Q J J J) wK (fun b y=>by obtain ⟨b1,b2⟩:=b; cases b1 <;> cases b2 <;> first|exact Imp.refl _|exact dz qN (by kernel_rfl)) ?_ (fun w ⟨hw1,hw2,hw3,hw4,hw5⟩=>?_))|(refine h3H ?_; (refine ni ?_; refine gC J J (fun h=>?_) (fun h=>?_)))|(show Exists _; first|refine Exists.intro ((w.1 + 1,w.2.1 + 1,w.2.2.1.take w.2.1 ++ [[.int .i64 (at_ (at_ b.cells v.1).at' w.1)]],w.2.2.2)) (Exists.intro (false,false) ⟨?_,?_,wK,(q3Q J J J),(q7Q J J J J J J J)⟩)|refine Exists.intro ((w.1 + 1,w.2.1,w.2.2.1,at_ (at_ a.cells u.1).at' (aD (fun d : Dim=>d.name == (at_ b.dims w.1).name) a.dims 0).toNat == at_ (at_ b.cells v.1).at' w.1)) (Exists.intro (false,false) ⟨?_,?_,wK,(q3Q J J J),(q7Q J J J J J J J)⟩)|refine Exists.intro ((w.1 + 1,w.2.1,w.2.2.1,false)) (Exists.intro (false,false) ⟨?_,?_,wK,(q3Q J J J),(q7Q J J J J J J J)⟩)|refine Exists.intro ((v.1 + 1,v.2.1 + 1,v.2.2.take v.2.1 ++ [[.sl 1 8 (List.take w.2.1 w.2.2.1),.sl 4 40 (List.take (0 + ((at_ a.cells u.1).vals.map aQ).length + ((at_ b.cells v.1).vals.map aQ).length) (List.take (0 + ((at_ a.cells u.1).vals.map aQ).length) (List.take 0 [] ++ ((at_ a.cells u.1).vals.map aQ)) ++ ((at_ b.cells v.1).vals.map aQ)))]])) (Exists.intro (false,false) ⟨?_,?_,wK,(q2Q J J),(q3Q J J J)⟩)|refine Exists.intro ((v.1 + 1,v.2)) (Exists.intro (false,false) ⟨?_,?_,wK,(q2Q J J),(q3Q J J J)⟩)|refine Exists.intro ((u.1 + 1,v.2)) (Exists.intro (false,false) ⟨?_,?_,wK,(q2Q J J),(q2Q J J)⟩)))
 ·exact ⟨Nat.zero_le _,by show 0 = (kN a b 0 0).length; rw [wz]; rfl,Nat.zero_le _,by show [] = (kN a b 0 0).map af; rw [wz]; rfl⟩
 ·exact ⟨Nat.zero_le _,hu2,hu3,hu4⟩
 ·have hui : u.1 < a.cells.length:=by simpa using ‹decide ((u.1 : Int) < ((a.cells.map af).length : Int)) = true›
  have hl:=(cellF_ok.1 (ha.cel _ (aX hui))).1
  refine ⟨Nat.zero_le _,?_,?_,?_,rfl⟩
  ·show 0 + ((at_ a.cells u.1).at'.map aB).length≤a.dims.length + 0
   rw [List.length_map,hl]; omega
  ·show 0 + ((at_ a.cells u.1).at'.map aB).length = (List.take 0 [] ++ (at_ a.cells u.1).at'.map aB).length
   simp
  ·show List.take 0 [] ++ (at_ a.cells u.1).at'.map aB = _
   simp [bA,fb,ar]
 ·have hlt : w.1 < b.dims.length:=by simpa using ‹decide ((w.1 : Int) < ((b.dims.map al).length : Int)) = true›
  have hin : inD a.dims (at_ b.dims w.1).name = false:=ud h
  refine ⟨hlt,by show w.2.1 + 1≤a.dims.length + (w.1 + 1); omega,?_,?_,by rw [Bi hin]; exact hw5⟩
  ·show w.2.1 + 1 = (List.take w.2.1 w.2.2.1 ++ _).length
   rw [List.take_of_length_le (by omega),List.length_append,← hw3]; rfl
  ·show List.take w.2.1 w.2.2.1 ++ _ = ((at_ a.cells u.1).at' ++ ar (at_ b.cells v.1).at' (bA a.dims b.dims (w.1 + 1))).map aB
   rw [CO hin,List.take_of_length_le (by omega),hw4,← List.append_assoc,List.map_append (l₂:=[_])]
   rfl
 ·have hlt : w.1 < b.dims.length:=by simpa using ‹decide ((w.1 : Int) < ((b.dims.map al).length : Int)) = true›
  show b.dims.length - (w.1 + 1) < b.dims.length - w.1
  omega
 ·have hlt : w.1 < b.dims.length:=by simpa using ‹decide ((w.1 : Int) < ((b.dims.map al).length : Int)) = true›
  have hin : inD a.dims (at_ b.dims w.1).name = true:=tm ‹decide (aD (fun d : Dim=>d.name == (at_ b.dims (w.1 : Int).toNat).name) a.dims 0 < 0) = false›
  have hs : w.2.2.2 = true:=h
  refine ⟨hlt,by show w.2.1≤a.dims.length + (w.1 + 1); omega,hw3,?_,?_⟩
  ·show w.2.2.1 = ((at_ a.cells u.1).at' ++ ar (at_ b.cells v.1).at' (bA a.dims b.dims (w.1 + 1))).map aB
   rw [zu hin]; exact hw4
  ·show _ = k9 a.dims b.dims (at_ a.cells u.1) (at_ b.cells v.1) (w.1 + 1)
   rw [wA hin,← hw5,hs,Bool.true_and]; rfl
 ·have hlt : w.1 < b.dims.length:=by simpa using ‹decide ((w.1 : Int) < ((b.dims.map al).length : Int)) = true›
  show b.dims.length - (w.1 + 1) < b.dims.length - w.1
  omega
 ·have hlt : w.1 < b.dims.length:=by simpa using ‹decide ((w.1 : Int) < ((b.dims.map al).length : Int)) = true›
  have hin : inD a.dims (at_ b.dims w.1).name = true:=tm ‹decide (aD (fun d : Dim=>d.name == (at_ b.dims (w.1 : Int).toNat).name) a.dims 0 < 0) = false›
  have hs : w.2.2.2 = false:=h
  refine ⟨hlt,by show w.2.1≤a.dims.length + (w.1 + 1); omega,hw3,?_,?_⟩
  ·show w.2.2.1 = ((at_ a.cells u.1).at' ++ ar (at_ b.cells v.1).at' (bA a.dims b.dims (w.1 + 1))).map aB
   rw [zu hin]; exact hw4
  ·show false = k9 a.dims b.dims (at_ a.cells u.1) (at_ b.cells v.1) (w.1 + 1)
   rw [wA hin,← hw5,hs,Bool.false_and]
 ·have hlt : w.1 < b.dims.length:=by simpa using ‹decide ((w.1 : Int) < ((b.dims.map al).length : Int)) = true›
  show b.dims.length - (w.1 + 1) < b.dims.length - w.1
  omega
 all_goals (
  have hui : u.1 < a.cells.length∨a.cells.length≤u.1:=by omega
  first
  | (have hvi : v.1 < b.cells.length:=by simpa using ‹decide ((v.1 : Int) < ((b.cells.map af).length : Int)) = true›
     show b.cells.length - (v.1 + 1) < b.cells.length - v.1
     omega)
  | (have hui : u.1 < a.cells.length:=by simpa using ‹decide ((u.1 : Int) < ((a.cells.map af).length : Int)) = true›
     show a.cells.length - (u.1 + 1) < a.cells.length - u.1
     omega)
  | skip)
 ·have hvi : v.1 < b.cells.length:=by simpa using ‹decide ((v.1 : Int) < ((b.cells.map af).length : Int)) = true›
  have hwe : w.1 = b.dims.length:=by
   have : ¬ w.1 < b.dims.length:=by simpa using ‹decide ((w.1 : Int) < ((b.dims.map al).length : Int)) = false›
   omega
  have hs : w.2.2.2 = false:=by simpa using h
  have hm : bB a.dims b.dims (at_ a.cells u.1) (at_ b.cells v.1) = false:=by rw [← pj,← hwe,← hw5]; exact hs
  exact ⟨hvi,by rw [Ce hvi hm]; exact hv2,hv3,by rw [Ce hvi hm]; exact hv4⟩
 ·have hvi : v.1 < b.cells.length:=by simpa using ‹decide ((v.1 : Int) < ((b.cells.map af).length : Int)) = true›
  have hui2 : u.1 < a.cells.length:=by simpa using ‹decide ((u.1 : Int) < ((a.cells.map af).length : Int)) = true›
  have hwe : w.1 = b.dims.length:=by
   have : ¬ w.1 < b.dims.length:=by simpa using ‹decide ((w.1 : Int) < ((b.dims.map al).length : Int)) = false›
   omega
  have hs : w.2.2.2 = true:=by simpa using ‹(!w.2.2.2) = false›
  have hm : bB a.dims b.dims (at_ a.cells u.1) (at_ b.cells v.1) = true:=by rw [← pj,← hwe,← hw5]; exact hs
  have hv : v.2.1 = 4096:=by
   have h' : ((v.2.1 : Int) == 4096) = true:=h
   rw [beq_iff_eq] at h'; omega
  have h1:=EN (a:=a) (b:=b) (i:=u.1) (k:=v.1 + 1) hui2
  rw [uc hvi hm,List.length_append,List.length_singleton] at h1
  unfold qf
  rw [if_pos (by omega)]
  rfl
 ·have hvi : v.1 < b.cells.length:=by simpa using ‹decide ((v.1 : Int) < ((b.cells.map af).length : Int)) = true›
  have hwe : w.1 = b.dims.length:=by
   have : ¬ w.1 < b.dims.length:=by simpa using ‹decide ((w.1 : Int) < ((b.dims.map al).length : Int)) = false›
   omega
  have hs : w.2.2.2 = true:=by simpa using ‹(!w.2.2.2) = false›
  have hm : bB a.dims b.dims (at_ a.cells u.1) (at_ b.cells v.1) = true:=by rw [← pj,← hwe,← hw5]; exact hs
  have hv : v.2.1≠4096:=by
   have h' : ((v.2.1 : Int) == 4096) = false:=h
   rw [beq_eq_false_iff_ne] at h'; omega
  rw [hwe] at hw4
  refine ⟨hvi,?_,by show v.2.1 + 1≤4096; omega,?_⟩
  ·show v.2.1 + 1 = (kN a b u.1 (v.1 + 1)).length
   rw [uc hvi hm,List.length_append,hv2]; rfl
  ·show List.take v.2.1 v.2.2 ++ _ = (kN a b u.1 (v.1 + 1)).map af
   rw [uc hvi hm,List.map_append,← hv4,List.take_of_length_le (by rw [hv4,List.length_map]; omega),Bj _ _ hw3 hw4]
   rfl
 ·have hui2 : u.1 < a.cells.length:=by simpa using ‹decide ((u.1 : Int) < ((a.cells.map af).length : Int)) = true›
  have hve : ¬ v.1 < b.cells.length:=by simpa using ‹decide ((v.1 : Int) < ((b.cells.map af).length : Int)) = false›
  have e:=DR (a:=a) (b:=b) hui2 (k:=v.1) (by omega)
  exact ⟨hui2,by rw [← e]; exact hv2,hv3,by rw [← e]; exact hv4⟩
 ·have hue : a.cells.length≤u.1:=by simpa using h
  rw [DS hue] at hu2 hu4
  unfold qf
  rw [if_neg (by omega)]
  show AV.tup [(false,[.d (.sl 2 48 (List.take u.2.1 u.2.2))]),_] = _
  rw [hu4,List.take_of_length_le (by rw [List.length_map]; omega)]
  rfl
end Go.Proofs.YtpejdgkaapnekaaGreat
namespace Go.Proofs.YtpejdgkaapnekaaGreat
open Go Go.Abs
attribute [local irreducible] aa OkC aq aC ax aS
set_option maxRecDepth 10000
theorem EK(l : List Cell)(x : List Int)(hs : l.Pairwise ltC)(hf : fx l x = true) : CallA Tryz.prog 117 [.one (.d (ak l)),.one (.d (aF x))] [] (.one (.d (.int .i64 (dI x l : Int)))) []:=by
 have h:=DY l x hs
 rw [if_pos hf] at h; exact h
theorem EL(l : List Cell)(x : List Int)(hs : l.Pairwise ltC)(hf : ¬ fx l x = true) : CallA Tryz.prog 117 [.one (.d (ak l)),.one (.d (aF x))] [] (.one (.d (.int .i64 (-1)))) []:=by
 have h:=DY l x hs
 rw [if_neg hf] at h; exact h
theorem Cc(ds : List Dim)(ats : List Attr)(l : List Cell)(hd : l.Pairwise bG)(h1 : ds.length≤1048576)(h2 : ats.length≤1048576)(h3 : ∀ c∈l,fw c)(hl : l.length≤4096) : CallA Tryz.prog 101 [.one (.d (aj ds)),.one (.d (ai ats)),.one (.d (ak l))] [] (.tup [(true,[.d (aj ds),.d (ai ats),.d (ak (bp l))]),(false,[.d (.int .i64 0)])]) []:=by
 have h:=FF ds ats l hd h1 h2 h3
 unfold dx at h
 rw [if_neg (by omega)] at h
 exact h
section
variable {src kept : List (Int×Bool)} {ds : List Dim} {rule : Int} {l l' r : List Cell} {c : Cell}
end
end Go.Proofs.YtpejdgkaapnekaaGreat
namespace Go.Proofs.YtpejdgkaapnekaaGreat
open Go Go.Abs
attribute [local irreducible] aa OkC aq aC ax aS
set_option maxRecDepth 10000
theorem qD{ds : List Dim}{n : List UInt8}(h : decide (0≤aD (fun d : Dim=>d.name == n) ds 0) = true) : 0≤aD (fun d : Dim=>d.name == n) ds 0∧(aD (fun d : Dim=>d.name == n) ds 0).toNat < ds.length:=by
 have h0:=of_decide_eq_true h
 obtain ⟨k,h1,h2,_⟩:=iO (p:=fun d : Dim=>d.name == n) (l:=ds) (j:=0) (by omega)
 rw [h1]; exact ⟨by omega,by simpa using h2⟩
theorem EW(a b : Arr)(ha : OkA a.dims a.attrs a.cells)(hb : OkA b.dims b.attrs b.cells)(h : 4096 < (cI a b).length) : CallA Tryz.prog 214 [aO a,aO b] [] (.tup [(false,[.d .nil]),(false,[.d (.bool false)])]) []:=by
 have h1:=DT a b ha hb
 unfold qf at h1
 rw [if_pos h] at h1; exact h1
theorem EX(a b : Arr)(ha : OkA a.dims a.attrs a.cells)(hb : OkA b.dims b.attrs b.cells)(h : ¬ 4096 < (cI a b).length) : CallA Tryz.prog 214 [aO a,aO b] [] (.tup [(false,[.d (ak (cI a b))]),(false,[.d (.bool true)])]) []:=by
 have h1:=DT a b ha hb
 unfold qf at h1
 rw [if_neg h] at h1; exact h1
theorem EY(ds : List Dim)(ats : List Attr)(l : List Cell)(xs zs : List (List D))(hd : l.Pairwise bG)(h1 : ds.length≤1048576)(h2 : ats.length≤1048576)(h3 : ∀ c∈l,fw c)(hl : l.length≤4096)(hx : xs = ds.map al)(hz : zs = ats.map aA) : CallA Tryz.prog 101 [.one (.d (.sl 3 32 xs)),.one (.d (.sl 2 24 zs)),.one (.d (ak l))] [] (.tup [(true,[.d (aj ds),.d (ai ats),.d (ak (bp l))]),(false,[.d (.int .i64 0)])]) []:=by
 subst hx; subst hz; exact Cc ds ats l hd h1 h2 h3 hl
theorem yG{a b : Arr}(ha : OkA a.dims a.attrs a.cells)(hb : OkA b.dims b.attrs b.cells) : ∀ c∈cI a b,fw c:=by
 intro c hc
 obtain ⟨x,hx,hc⟩:=List.mem_flatMap.1 hc
 obtain ⟨y,hy,rfl⟩:=List.mem_map.1 hc
 have hy:=(List.mem_filter.1 hy).1
 have e1:=cellF_ok.1 (ha.cel _ hx)
 have e2:=cellF_ok.1 (hb.cel _ hy)
 have h1:=ha.dims.2.1
 have h2:=hb.dims.2.1
 have h3:=(bg ha.sch).2.2.1
 have h4:=(bg hb.sch).2.2.1
 have h5 : (aV a.dims b.dims).length≤b.dims.length:=by rw [jO]; exact n4
 unfold fw kZ
 simp only [List.length_append,bT]
 omega
theorem Dh{a b : Arr}{n : Nat}(hn : n = 0 + (a.attrs.map aA).length + (b.attrs.map aA).length) : List.take n (List.take (0 + (a.attrs.map aA).length) (List.take 0 [] ++ a.attrs.map aA) ++ b.attrs.map aA) = (a.attrs ++ b.attrs).map aA:=by
 rw [List.take_zero,List.nil_append,List.take_of_length_le (l:=a.attrs.map aA) (by omega),List.take_of_length_le (by rw [List.length_append]; omega),List.map_append]
section
variable {a b : Arr}
theorem z8(h : 4 < (aW a.dims b.dims).length) : cJ a b = (none,9):=by unfold cJ; rw [if_pos (.inl (by omega))]
theorem Aa(h : 6 < 0 + (a.attrs.map aA).length + (b.attrs.map aA).length) : cJ a b = (none,9):=by
 unfold cJ; rw [if_pos (.inr (by rw [List.length_append]; simp only [List.length_map] at h; omega))]
theorem wW(h1 : ¬ 4 < (aW a.dims b.dims).length)(h2 : ¬ 6 < 0 + (a.attrs.map aA).length + (b.attrs.map aA).length)(h3 : (aW a.dims b.dims).any fZ = true) : cJ a b = (none,3):=by
 simp only [List.length_map] at h2
 unfold cJ
 rw [if_neg (by rw [List.length_append]; omega),if_pos h3]
theorem wX(h1 : ¬ 4 < (aW a.dims b.dims).length)(h2 : ¬ 6 < 0 + (a.attrs.map aA).length + (b.attrs.map aA).length)(h3 : (aW a.dims b.dims).any fZ = false) : cJ a b = dx (aW a.dims b.dims) (a.attrs ++ b.attrs) (cI a b):=by
 simp only [List.length_map] at h2
 unfold cJ
 rw [if_neg (by rw [List.length_append]; omega),if_neg (by simp [h3])]
end
theorem wY{bd : List Dim}{d : Dim}(h : decide (0≤aD (fun x : Dim=>x.name == d.name) bd 0) = true) : dq bd d = ⟨d.name,max d.lo (at_ bd (aD (fun x : Dim=>x.name == d.name) bd 0).toNat).lo,min d.hi (at_ bd (aD (fun x : Dim=>x.name == d.name) bd 0).toNat).hi⟩:=by
 have h0 : ¬ bk bd d.name < 0:=by have:=of_decide_eq_true h; unfold bk; omega
 unfold dq
 rw [if_neg h0]; rfl
theorem wZ{bd : List Dim}{d : Dim}(h : decide (0≤aD (fun x : Dim=>x.name == d.name) bd 0) = false) : dq bd d = d:=tK h
set_option maxHeartbeats 2000000 in
theorem Hn(a b : Arr)(ha : OkA a.dims a.attrs a.cells)(hb : OkA b.dims b.attrs b.cells) : CallA Tryz.prog 160 [aO a,aO b] [] (er (cJ a b)) []:=by
 unfold aO
 refine enter ag Tryz.func160 rfl (by decide +kernel) rfl fun hok w0 σ0 φ0 M=>?_
 clear hok
 have hfa:=ha.few
 have hfb:=hb.few
 have hb4:=hb.dims.2.1
 have ha4:=ha.dims.2.1
 have ha6:=(bg ha.sch).2.2.1
 have hb6:=(bg hb.sch).2.2.1
 have hjl : (aW a.dims b.dims).length = a.dims.length + (aV a.dims b.dims).length:=by unfold aW; rw [List.length_append,List.length_map,bT]
 have hj5 : (aV a.dims b.dims).length≤b.dims.length:=by rw [jO]; exact n4
 have hj1 : (aW a.dims b.dims).length≤1048576:=by omega
 have hj2 : (a.attrs ++ b.attrs).length≤1048576:=by rw [List.length_append]; omega
 by_cases hbig : 4096 < (cI a b).length
 ·repeat' (first|(refine h1H ?_; (refine h0H ?_; first|refine ab J J J J J J J J (ml _ _) J ?_|refine ab J J J J J J J J (EW a b ha hb (by assumption)) J ?_))|(refine h3H ?_; (refine h8H ?_; refine d_e envOk J J J (cr J J J J J (qD (by assumption)).1 (db (qD (by assumption)).2)) ?_))|(refine h3H ?_; (refine h2H ?_; refine d_l J J (bw J J J J J J (ml _ _) J) ?_))|refine wG ?_|(refine h1H ?_; (refine h4H ?_; refine bn J J J J (fun h=>?_) (fun h=>?_)))|(refine h5H ?_; first|refine ao J (fun h=>?_) (fun h=>?_)|refine dy 3 J (ej (s:=6) (id:=10) (k:=3) (b:=32) J J J J) [(2,_),(3,_),(4,_)] (q3Q J J J) (fun (bN : Bool×Bool) (p : Nat×Nat×List (List D))=>[(6,.one (.own 10 p.2.1)),(7,.one (.d (.int .i64 (p.1 : Int))))]) (fun (bN : Bool×Bool) (p : Nat×Nat×List (List D))=>[(10,.row 3 32 p.2.2),(2,.box [.d .nil,.d .nil,.d .nil]),(0,.box [.d (aj a.dims),.d (ai a.attrs),.d (ak a.cells)]),(1,.box [.d (aj b.dims),.d (ai b.attrs),.d (ak b.cells)])]) (fun (p : Nat×Nat×List (List D))=>p.1≤a.dims.length∧p.2.1 = p.1∧p.2.2.length = p.1∧p.2.2 = ((a.dims.take p.1).map (dq b.dims)).map al) (fun (p : Nat×Nat×List (List D))=>a.dims.length - p.1) (0,0,[]) (q2Q J J) wK (fun b y=>by obtain ⟨b1,b2⟩:=b; cases b1 <;> cases b2 <;> first|exact Imp.refl _|exact dz qN (by kernel_rfl)) ?_ (fun p ⟨hp1,hp2,hp3,hp4⟩=>?_)|refine dy 12 J (Imp.refl _) [(2,_),(3,_),(4,_)] (q3Q J J J) (fun (bN : Bool×Bool) (q : Nat×Nat×List (List D))=>[(6,.one (.own 10 q.2.1)),(10,.one (.d (.int .i64 (q.1 : Int))))]) (fun (bN : Bool×Bool) (q : Nat×Nat×List (List D))=>[(10,.row 3 32 q.2.2),(2,.box [.d .nil,.d .nil,.d .nil]),(0,.box [.d (aj a.dims),.d (ai a.attrs),.d (ak a.cells)]),(1,.box [.d (aj b.dims),.d (ai b.attrs),.d (ak b.cells)])]) (fun (q : Nat×Nat×List (List D))=>q.1≤b.dims.length∧q.2.1≤a.dims.length + q.1∧q.2.2.length = q.2.1∧q.2.2 = (a.dims.map (dq b.dims) ++ ar b.dims (bA a.dims b.dims q.1)).map al) (fun (q : Nat×Nat×List (List D))=>b.dims.length - q.1) (0,p.2) (q2Q J J) wK (fun b y=>by obtain ⟨b1,b2⟩:=b; cases b1 <;> cases b2 <;> first|exact Imp.refl _|exact dz qN (by kernel_rfl)) ?_ (fun q ⟨hq1,hq2,hq3,hq4⟩=>?_)|refine dy 21 J (Imp.refl _) [(2,_),(3,_),(4,_),(6,_),(11,_)] (q5Q J J J J J) (fun (bN : Bool×Bool) (r : Nat)=>[(12,.one (.d (.int .i64 (r : Int))))]) (fun (bN : Bool×Bool) (r : Nat)=>[(10,.row 3 32 q.2.2),(3,.row 2 24 (List.take (0 + (a.attrs.map aA).length) (List.take 0 [] ++ a.attrs.map aA) ++ b.attrs.map aA)),(2,.box [.d .nil,.d .nil,.d .nil]),(0,.box [.d (aj a.dims),.d (ai a.attrs),.d (ak a.cells)]),(1,.box [.d (aj b.dims),.d (ai b.attrs),.d (ak b.cells)])]) (fun (r : Nat)=>r≤q.2.1∧(aW a.dims b.dims).any fZ = ((a.dims.map (dq b.dims) ++ ar b.dims (bA a.dims b.dims q.1)).drop r).any fZ) (fun (r : Nat)=>q.2.1 - r) 0 (q1Q J) wK (fun b y=>by obtain ⟨b1,b2⟩:=b; cases b1 <;> cases b2 <;> first|exact Imp.refl _|exact dz qN (by kernel_rfl)) ?_ (fun r ⟨hr1,hr2⟩=>?_))|(show Exists _; first|refine Exists.intro (r + 1) (Exists.intro (false,false) ⟨?_,?_,wK,(q1Q J),(q5Q J J J J J)⟩)|refine Exists.intro ((q.1 + 1,q.2.1 + 1,q.2.2.take q.2.1 ++ [al (at_ b.dims q.1)])) (Exists.intro (false,false) ⟨?_,?_,wK,(q2Q J J),(q3Q J J J)⟩)|refine Exists.intro ((q.1 + 1,q.2)) (Exists.intro (false,false) ⟨?_,?_,wK,(q2Q J J),(q3Q J J J)⟩)|refine Exists.intro ((p.1 + 1,p.2.1 + 1,p.2.2.take p.2.1 ++ [[.str (at_ a.dims p.1).name,.int .i64 (max (at_ a.dims p.1).lo (at_ b.dims (aD (fun d : Dim=>d.name == (at_ a.dims p.1).name) b.dims 0).toNat).lo),.int .i64 (min (at_ a.dims p.1).hi (at_ b.dims (aD (fun d : Dim=>d.name == (at_ a.dims p.1).name) b.dims 0).toNat).hi)]])) (Exists.intro (false,false) ⟨?_,?_,wK,(q2Q J J),(q3Q J J J)⟩)|refine Exists.intro ((p.1 + 1,p.2.1 + 1,p.2.2.take p.2.1 ++ [al (at_ a.dims p.1)])) (Exists.intro (false,false) ⟨?_,?_,wK,(q2Q J J),(q3Q J J J)⟩)))
  all_goals first
   | exact ⟨Nat.zero_le _,rfl,rfl,rfl⟩
   | (have hlt : p.1 < a.dims.length:=by simpa using ‹decide ((p.1 : Int) < ((a.dims.map al).length : Int)) = true›
      show a.dims.length - (p.1 + 1) < a.dims.length - p.1
      omega)
   | (have hlt : q.1 < b.dims.length:=by simpa using ‹decide ((q.1 : Int) < ((b.dims.map al).length : Int)) = true›
      show b.dims.length - (q.1 + 1) < b.dims.length - q.1
      omega)
   | (have hlt : r < q.2.1:=by simpa using ‹decide ((r : Int) < (q.2.1 : Int)) = true›
      show q.2.1 - (r + 1) < q.2.1 - r
      omega)
   | (have hlt : p.1 < a.dims.length:=by simpa using ‹decide ((p.1 : Int) < ((a.dims.map al).length : Int)) = true›
      refine ⟨hlt,by show p.2.1 + 1 = p.1 + 1; omega,?_,?_⟩
      ·show (List.take p.2.1 p.2.2 ++ _).length = p.1 + 1
       rw [List.take_of_length_le (by omega),List.length_append,hp3]; rfl
      ·show List.take p.2.1 p.2.2 ++ _ = ((a.dims.take (p.1 + 1)).map (dq b.dims)).map al
       rw [ch hlt,List.map_append,List.map_append,← hp4,List.take_of_length_le (by omega)]
       simp only [List.map_cons,List.map_nil]
       first
       | (rw [wY (d:=at_ a.dims p.1) h]; rfl)
       | (rw [wZ (d:=at_ a.dims p.1) h]; done))
   | (have hpe : p.1 = a.dims.length:=by
       have : ¬ p.1 < a.dims.length:=by simpa using ‹decide ((p.1 : Int) < ((a.dims.map al).length : Int)) = false›
       omega
      refine ⟨Nat.zero_le _,by show p.2.1≤a.dims.length + 0; omega,by show p.2.2.length = p.2.1; omega,?_⟩
      show p.2.2 = (a.dims.map (dq b.dims) ++ ar b.dims (bA a.dims b.dims 0)).map al
      rw [hp4,hpe,List.take_length]
      simp [bA,fb,ar])
   | (have hlt : q.1 < b.dims.length:=by simpa using ‹decide ((q.1 : Int) < ((b.dims.map al).length : Int)) = true›
      have hin : inD a.dims (at_ b.dims q.1).name = false:=ud h
      refine ⟨hlt,by show q.2.1 + 1≤a.dims.length + (q.1 + 1); omega,?_,?_⟩
      ·show (List.take q.2.1 q.2.2 ++ _).length = q.2.1 + 1
       rw [List.take_of_length_le (by omega),List.length_append,hq3]; rfl
      ·show List.take q.2.1 q.2.2 ++ _ = (a.dims.map (dq b.dims) ++ ar b.dims (bA a.dims b.dims (q.1 + 1))).map al
       rw [show ar b.dims (bA a.dims b.dims (q.1 + 1)) = ar b.dims (bA a.dims b.dims q.1) ++ [at_ b.dims q.1] by unfold bA; rw [eR,if_neg (by simp [hin])]; simp [ar],← List.append_assoc,List.map_append (l₂:=[_]),← hq4,List.take_of_length_le (by omega)]
       rfl)
   | (have hlt : q.1 < b.dims.length:=by simpa using ‹decide ((q.1 : Int) < ((b.dims.map al).length : Int)) = true›
      have hin : inD a.dims (at_ b.dims q.1).name = true:=tm h
      refine ⟨hlt,by show q.2.1≤a.dims.length + (q.1 + 1); omega,hq3,?_⟩
      show q.2.2 = (a.dims.map (dq b.dims) ++ ar b.dims (bA a.dims b.dims (q.1 + 1))).map al
      rw [show ar b.dims (bA a.dims b.dims (q.1 + 1)) = ar b.dims (bA a.dims b.dims q.1) by unfold bA; rw [eR,if_pos hin]]
      exact hq4)
   | skip
  all_goals
   have hqe : q.1 = b.dims.length:=by
    have : ¬ q.1 < b.dims.length:=by simpa using ‹decide ((q.1 : Int) < ((b.dims.map al).length : Int)) = false›
    omega
   have hJ : a.dims.map (dq b.dims) ++ ar b.dims (bA a.dims b.dims q.1) = aW a.dims b.dims:=by rw [hqe]; rfl
   rw [hJ] at hq4
   have hql : q.2.1 = (aW a.dims b.dims).length:=by rw [← hq3,hq4,List.length_map]
   try rw [hJ]
   try rw [hJ] at hr2
  all_goals first
   | (rw [z8 (by have h':=of_decide_eq_true (show decide (4 < (q.2.1 : Int)) = true from h); omega)]; rfl)
   | (rw [Aa (by have h':=of_decide_eq_true h; omega)]; rfl)
   | exact ⟨Nat.zero_le _,rfl⟩
   | skip
  all_goals
   have hn1 : ¬ 4 < (aW a.dims b.dims).length:=by
    have h':=of_decide_eq_false (show decide (4 < (q.2.1 : Int)) = false by assumption)
    omega
   have hn2 : ¬ 6 < 0 + (a.attrs.map aA).length + (b.attrs.map aA).length:=by
    have h':=of_decide_eq_false (show decide (6 < ((0 + (a.attrs.map aA).length + (b.attrs.map aA).length : Nat) : Int)) = false by assumption)
    omega
  all_goals first
   | (have hlt : r < q.2.1:=by simpa using ‹decide ((r : Int) < (q.2.1 : Int)) = true›
      have hbad : fZ (at_ (aW a.dims b.dims) r) = true:=by
       have h':=h
       simp only [hJ] at h'
       exact h'
      rw [wW hn1 hn2 (List.any_eq_true.2 ⟨_,aX (by omega),hbad⟩)]
      rfl)
   | (have hlt : r < q.2.1:=by simpa using ‹decide ((r : Int) < (q.2.1 : Int)) = true›
      have hbad : fZ (at_ (aW a.dims b.dims) r) = false:=by
       have h':=h
       simp only [hJ] at h'
       exact h'
      refine ⟨hlt,?_⟩
      rw [hr2,av (by omega),List.any_cons,hbad,Bool.false_or])
   | skip
  all_goals
   have hre : q.2.1≤r:=by
    have : ¬ r < q.2.1:=by simpa using ‹decide ((r : Int) < (q.2.1 : Int)) = false›
    omega
   rw [List.drop_eq_nil_of_le (by omega)] at hr2
   rw [wX hn1 hn2 (by rw [hr2]; rfl)]
   unfold dx
  all_goals (rw [if_pos (by omega)]; rfl)
 ·repeat' (first|(refine h1H ?_; (refine h0H ?_; first|refine jP 70 [10,3] J J J J J J J J J (EY (aW a.dims b.dims) (a.attrs ++ b.attrs) (cI a b) _ _ (p4 ha hb) hj1 hj2 (yG ha hb) (by omega) (by rw [List.take_of_length_le (by omega),hq4,show q.1 = b.dims.length from wB]; rfl) (Dh J)) J J J ?_|refine ab J J J J J J J J (ml _ _) J ?_|refine bh 16 J J J J J J J J (EX a b ha hb (by assumption)) J J J ?_))|(refine h3H ?_; (refine h8H ?_; refine d_e envOk J J J (cr J J J J J (qD (by assumption)).1 (db (qD (by assumption)).2)) ?_))|(refine h3H ?_; (refine h2H ?_; refine d_l J J (bw J J J J J J (ml _ _) J) ?_))|refine wG ?_|(refine h1H ?_; (refine h4H ?_; refine bn J J J J (fun h=>?_) (fun h=>?_)))|(refine h5H ?_; first|refine ao J (fun h=>?_) (fun h=>?_)|refine dy 3 J (ej (s:=6) (id:=10) (k:=3) (b:=32) J J J J) [(2,_),(3,_),(4,_)] (q3Q J J J) (fun (bN : Bool×Bool) (p : Nat×Nat×List (List D))=>[(6,.one (.own 10 p.2.1)),(7,.one (.d (.int .i64 (p.1 : Int))))]) (fun (bN : Bool×Bool) (p : Nat×Nat×List (List D))=>[(10,.row 3 32 p.2.2),(2,.box [.d .nil,.d .nil,.d .nil]),(0,.box [.d (aj a.dims),.d (ai a.attrs),.d (ak a.cells)]),(1,.box [.d (aj b.dims),.d (ai b.attrs),.d (ak b.cells)])]) (fun (p : Nat×Nat×List (List D))=>p.1≤a.dims.length∧p.2.1 = p.1∧p.2.2.length = p.1∧p.2.2 = ((a.dims.take p.1).map (dq b.dims)).map al) (fun (p : Nat×Nat×List (List D))=>a.dims.length - p.1) (0,0,[]) (q2Q J J) wK (fun b y=>by obtain ⟨b1,b2⟩:=b; cases b1 <;> cases b2 <;> first|exact Imp.refl _|exact dz qN (by kernel_rfl)) ?_ (fun p ⟨hp1,hp2,hp3,hp4⟩=>?_)|refine dy 12 J (Imp.refl _) [(2,_),(3,_),(4,_)] (q3Q J J J) (fun (bN : Bool×Bool) (q : Nat×Nat×List (List D))=>[(6,.one (.own 10 q.2.1)),(10,.one (.d (.int .i64 (q.1 : Int))))]) (fun (bN : Bool×Bool) (q : Nat×Nat×List (List D))=>[(10,.row 3 32 q.2.2),(2,.box [.d .nil,.d .nil,.d .nil]),(0,.box [.d (aj a.dims),.d (ai a.attrs),.d (ak a.cells)]),(1,.box [.d (aj b.dims),.d (ai b.attrs),.d (ak b.cells)])]) (fun (q : Nat×Nat×List (List D))=>q.1≤b.dims.length∧q.2.1≤a.dims.length + q.1∧q.2.2.length = q.2.1∧q.2.2 = (a.dims.map (dq b.dims) ++ ar b.dims (bA a.dims b.dims q.1)).map al) (fun (q : Nat×Nat×List (List D))=>b.dims.length - q.1) (0,p.2) (q2Q J J) wK (fun b y=>by obtain ⟨b1,b2⟩:=b; cases b1 <;> cases b2 <;> first|exact Imp.refl _|exact dz qN (by kernel_rfl)) ?_ (fun q ⟨hq1,hq2,hq3,hq4⟩=>?_)|refine dy 21 J (Imp.refl _) [(2,_),(3,_),(4,_),(6,_),(11,_)] (q5Q J J J J J) (fun (bN : Bool×Bool) (r : Nat)=>[(12,.one (.d (.int .i64 (r : Int))))]) (fun (bN : Bool×Bool) (r : Nat)=>[(10,.row 3 32 q.2.2),(3,.row 2 24 (List.take (0 + (a.attrs.map aA).length) (List.take 0 [] ++ a.attrs.map aA) ++ b.attrs.map aA)),(2,.box [.d .nil,.d .nil,.d .nil]),(0,.box [.d (aj a.dims),.d (ai a.attrs),.d (ak a.cells)]),(1,.box [.d (aj b.dims),.d (ai b.attrs),.d (ak b.cells)])]) (fun (r : Nat)=>r≤q.2.1∧(aW a.dims b.dims).any fZ = ((a.dims.map (dq b.dims) ++ ar b.dims (bA a.dims b.dims q.1)).drop r).any fZ) (fun (r : Nat)=>q.2.1 - r) 0 (q1Q J) wK (fun b y=>by obtain ⟨b1,b2⟩:=b; cases b1 <;> cases b2 <;> first|exact Imp.refl _|exact dz qN (by kernel_rfl)) ?_ (fun r ⟨hr1,hr2⟩=>?_))|(show Exists _; first|refine Exists.intro (r + 1) (Exists.intro (false,false) ⟨?_,?_,wK,(q1Q J),(q5Q J J J J J)⟩)|refine Exists.intro ((q.1 + 1,q.2.1 + 1,q.2.2.take q.2.1 ++ [al (at_ b.dims q.1)])) (Exists.intro (false,false) ⟨?_,?_,wK,(q2Q J J),(q3Q J J J)⟩)|refine Exists.intro ((q.1 + 1,q.2)) (Exists.intro (false,false) ⟨?_,?_,wK,(q2Q J J),(q3Q J J J)⟩)|refine Exists.intro ((p.1 + 1,p.2.1 + 1,p.2.2.take p.2.1 ++ [[.str (at_ a.dims p.1).name,.int .i64 (max (at_ a.dims p.1).lo (at_ b.dims (aD (fun d : Dim=>d.name == (at_ a.dims p.1).name) b.dims 0).toNat).lo),.int .i64 (min (at_ a.dims p.1).hi (at_ b.dims (aD (fun d : Dim=>d.name == (at_ a.dims p.1).name) b.dims 0).toNat).hi)]])) (Exists.intro (false,false) ⟨?_,?_,wK,(q2Q J J),(q3Q J J J)⟩)|refine Exists.intro ((p.1 + 1,p.2.1 + 1,p.2.2.take p.2.1 ++ [al (at_ a.dims p.1)])) (Exists.intro (false,false) ⟨?_,?_,wK,(q2Q J J),(q3Q J J J)⟩)))
  all_goals first
   | exact ⟨Nat.zero_le _,rfl,rfl,rfl⟩
   | (have hlt : p.1 < a.dims.length:=by simpa using ‹decide ((p.1 : Int) < ((a.dims.map al).length : Int)) = true›
      show a.dims.length - (p.1 + 1) < a.dims.length - p.1
      omega)
   | (have hlt : q.1 < b.dims.length:=by simpa using ‹decide ((q.1 : Int) < ((b.dims.map al).length : Int)) = true›
      show b.dims.length - (q.1 + 1) < b.dims.length - q.1
      omega)
   | (have hlt : r < q.2.1:=by simpa using ‹decide ((r : Int) < (q.2.1 : Int)) = true›
      show q.2.1 - (r + 1) < q.2.1 - r
      omega)
   | (have hlt : p.1 < a.dims.length:=by simpa using ‹decide ((p.1 : Int) < ((a.dims.map al).length : Int)) = true›
      refine ⟨hlt,by show p.2.1 + 1 = p.1 + 1; omega,?_,?_⟩
      ·show (List.take p.2.1 p.2.2 ++ _).length = p.1 + 1
       rw [List.take_of_length_le (by omega),List.length_append,hp3]; rfl
      ·show List.take p.2.1 p.2.2 ++ _ = ((a.dims.take (p.1 + 1)).map (dq b.dims)).map al
       rw [ch hlt,List.map_append,List.map_append,← hp4,List.take_of_length_le (by omega)]
       simp only [List.map_cons,List.map_nil]
       first
       | (rw [wY (d:=at_ a.dims p.1) h]; rfl)
       | (rw [wZ (d:=at_ a.dims p.1) h]; done))
   | (have hpe : p.1 = a.dims.length:=by
       have : ¬ p.1 < a.dims.length:=by simpa using ‹decide ((p.1 : Int) < ((a.dims.map al).length : Int)) = false›
       omega
      refine ⟨Nat.zero_le _,by show p.2.1≤a.dims.length + 0; omega,by show p.2.2.length = p.2.1; omega,?_⟩
      show p.2.2 = (a.dims.map (dq b.dims) ++ ar b.dims (bA a.dims b.dims 0)).map al
      rw [hp4,hpe,List.take_length]
      simp [bA,fb,ar])
   | (have hlt : q.1 < b.dims.length:=by simpa using ‹decide ((q.1 : Int) < ((b.dims.map al).length : Int)) = true›
      have hin : inD a.dims (at_ b.dims q.1).name = false:=ud h
      refine ⟨hlt,by show q.2.1 + 1≤a.dims.length + (q.1 + 1); omega,?_,?_⟩
      ·show (List.take q.2.1 q.2.2 ++ _).length = q.2.1 + 1
       rw [List.take_of_length_le (by omega),List.length_append,hq3]; rfl
      ·show List.take q.2.1 q.2.2 ++ _ = (a.dims.map (dq b.dims) ++ ar b.dims (bA a.dims b.dims (q.1 + 1))).map al
       rw [show ar b.dims (bA a.dims b.dims (q.1 + 1)) = ar b.dims (bA a.dims b.dims q.1) ++ [at_ b.dims q.1] by unfold bA; rw [eR,if_neg (by simp [hin])]; simp [ar],← List.append_assoc,List.map_append (l₂:=[_]),← hq4,List.take_of_length_le (by omega)]
       rfl)
   | (have hlt : q.1 < b.dims.length:=by simpa using ‹decide ((q.1 : Int) < ((b.dims.map al).length : Int)) = true›
      have hin : inD a.dims (at_ b.dims q.1).name = true:=tm h
      refine ⟨hlt,by show q.2.1≤a.dims.length + (q.1 + 1); omega,hq3,?_⟩
      show q.2.2 = (a.dims.map (dq b.dims) ++ ar b.dims (bA a.dims b.dims (q.1 + 1))).map al
      rw [show ar b.dims (bA a.dims b.dims (q.1 + 1)) = ar b.dims (bA a.dims b.dims q.1) by unfold bA; rw [eR,if_pos hin]]
      exact hq4)
   | skip
  all_goals
   have hqe : q.1 = b.dims.length:=by
    have : ¬ q.1 < b.dims.length:=by simpa using ‹decide ((q.1 : Int) < ((b.dims.map al).length : Int)) = false›
    omega
   have hJ : a.dims.map (dq b.dims) ++ ar b.dims (bA a.dims b.dims q.1) = aW a.dims b.dims:=by rw [hqe]; rfl
   rw [hJ] at hq4
   have hql : q.2.1 = (aW a.dims b.dims).length:=by rw [← hq3,hq4,List.length_map]
   try rw [hJ]
   try rw [hJ] at hr2
  all_goals first
   | (rw [z8 (by have h':=of_decide_eq_true (show decide (4 < (q.2.1 : Int)) = true from h); omega)]; rfl)
   | (rw [Aa (by have h':=of_decide_eq_true h; omega)]; rfl)
   | exact ⟨Nat.zero_le _,rfl⟩
   | skip
  all_goals
   have hn1 : ¬ 4 < (aW a.dims b.dims).length:=by
    have h':=of_decide_eq_false (show decide (4 < (q.2.1 : Int)) = false by assumption)
    omega
   have hn2 : ¬ 6 < 0 + (a.attrs.map aA).length + (b.attrs.map aA).length:=by
    have h':=of_decide_eq_false (show decide (6 < ((0 + (a.attrs.map aA).length + (b.attrs.map aA).length : Nat) : Int)) = false by assumption)
    omega
  all_goals first
   | (have hlt : r < q.2.1:=by simpa using ‹decide ((r : Int) < (q.2.1 : Int)) = true›
      have hbad : fZ (at_ (aW a.dims b.dims) r) = true:=by
       have h':=h
       simp only [hJ] at h'
       exact h'
      rw [wW hn1 hn2 (List.any_eq_true.2 ⟨_,aX (by omega),hbad⟩)]
      rfl)
   | (have hlt : r < q.2.1:=by simpa using ‹decide ((r : Int) < (q.2.1 : Int)) = true›
      have hbad : fZ (at_ (aW a.dims b.dims) r) = false:=by
       have h':=h
       simp only [hJ] at h'
       exact h'
      refine ⟨hlt,?_⟩
      rw [hr2,av (by omega),List.any_cons,hbad,Bool.false_or])
   | skip
  all_goals
   have hre : q.2.1≤r:=by
    have : ¬ r < q.2.1:=by simpa using ‹decide ((r : Int) < (q.2.1 : Int)) = false›
    omega
   rw [List.drop_eq_nil_of_le (by omega)] at hr2
   rw [wX hn1 hn2 (by rw [hr2]; rfl)]
   unfold dx
  all_goals (rw [if_neg (by omega)]; rfl)
end Go.Proofs.YtpejdgkaapnekaaGreat
namespace Go.Proofs.YtpejdgkaapnekaaGreat
open Go Go.Abs
attribute [local irreducible] aa OkC aq aC ax aS
set_option maxRecDepth 10000
theorem ja(a b : Arr)(e : Bool)(h : iE a b = e) : CallA Tryz.prog 158 [aO a,aO b] [] (.one (.d (.bool e))) []:=by
 subst h; exact Gr a b
theorem fl(a b : Arr)(e : Bool)(h : cK a b = e) : CallA Tryz.prog 159 [aO a,aO b] [] (.one (.d (.bool e))) []:=by
 subst h; exact Gs a b
theorem Ct(a b : Arr)(ha : OkA a.dims a.attrs a.cells)(hb : OkA b.dims b.attrs b.cells)(o : Option Arr)(e : Int)(h : cJ a b = (o,e)) : CallA Tryz.prog 160 [aO a,aO b] [] (er (o,e)) []:=by
 rw [← h]; exact Hn a b ha hb
theorem Cu(a b : Arr)(ha : OkA a.dims a.attrs a.cells)(hb : OkA b.dims b.attrs b.cells)(e : Int)(h : cJ a b = (none,e)) : CallA Tryz.prog 160 [aO a,aO b] [] (.tup [(true,[.d .nil,.d .nil,.d .nil]),(false,[.d (.int .i64 e)])]) []:=Ct a b ha hb none e h
theorem Cv(a b : Arr)(ha : OkA a.dims a.attrs a.cells)(hb : OkA b.dims b.attrs b.cells)(x : Arr)(e : Int)(h : cJ a b = (some x,e)) : CallA Tryz.prog 160 [aO a,aO b] [] (.tup [(true,[.d (aj x.dims),.d (ai x.attrs),.d (ak x.cells)]),(false,[.d (.int .i64 e)])]) []:=Ct a b ha hb (some x) e h
theorem xx(a b : Arr) : (bz a.dims a.attrs a.cells != 0) = true∧(bZ a≠0∨bZ b≠0)∨(bz a.dims a.attrs a.cells != 0) = false∧(bz b.dims b.attrs b.cells != 0) = true∧(bZ a≠0∨bZ b≠0) ∨
  (bz a.dims a.attrs a.cells != 0) = false∧(bz b.dims b.attrs b.cells != 0) = false∧¬ (bZ a≠0∨bZ b≠0):=by
 unfold bZ
 by_cases h1 : bz a.dims a.attrs a.cells = 0
 ·by_cases h2 : bz b.dims b.attrs b.cells = 0
  ·exact .inr (.inr ⟨by simp [h1],by simp [h2],by simp [h1,h2]⟩)
  ·exact .inr (.inl ⟨by simp [h1],by simp [h2],.inr h2⟩)
 ·exact .inl ⟨by simp [h1],.inl h1⟩
set_option maxHeartbeats 2000000 in
theorem c55(a b : Arr) : CallA Tryz.prog 55 [aO a,aO b] [] (er (c8 a b)) []:=by
 unfold aO
 refine enter ag Tryz.func55 rfl (by decide +kernel) rfl fun hok w0 σ0 φ0 M=>?_
 clear hok
 rcases xx a b with ⟨h1,hc⟩ | ⟨h1,h2,hc⟩ | ⟨h1,h2,hc⟩
 ·rw [show c8 a b = (none,2) by unfold c8; rw [if_pos hc]]
  repeat' (first|(refine h1H ?_; (refine h0H ?_; refine ab J J J J J J J J (c89 _ _ _) J ?_))|refine wG ?_)
  all_goals rfl
 ·rw [show c8 a b = (none,2) by unfold c8; rw [if_pos hc]]
  repeat' (first|(refine h1H ?_; (refine h0H ?_; refine ab J J J J J J J J (c89 _ _ _) J ?_))|refine wG ?_)
  all_goals rfl
 have ha : OkA a.dims a.attrs a.cells:=okA (by simpa using h1)
 have hb : OkA b.dims b.attrs b.cells:=okA (by simpa using h2)
 cases h3 : iE a b
 ·rw [show c8 a b = (none,13) by unfold c8; rw [if_neg hc,if_pos (by simp [h3])]]
  repeat' (first|(refine h1H ?_; (refine h0H ?_; first|refine ab J J J J J J J J (c89 _ _ _) J ?_|refine ab J J J J J J J J (ja a b _ (by assumption)) J ?_))|refine wG ?_)
  all_goals rfl
 cases h4 : cK a b
 rotate_left
 ·rw [show c8 a b = (none,11) by unfold c8; rw [if_neg hc,if_neg (by simp [h3]),if_pos (by simp [h4])]]
  repeat' (first|(refine h1H ?_; (refine h0H ?_; first|refine ab J J J J J J J J (c89 _ _ _) J ?_|refine ab J J J J J J J J (ja a b _ (by assumption)) J ?_|refine ab J J J J J J J J (fl a b _ (by assumption)) J ?_))|refine wG ?_)
  all_goals rfl
 cases h5 : cK b a
 rotate_left
 ·rw [show c8 a b = (none,11) by unfold c8; rw [if_neg hc,if_neg (by simp [h3]),if_pos (by simp [h5])]]
  repeat' (first|(refine h1H ?_; (refine h0H ?_; first|refine ab J J J J J J J J (c89 _ _ _) J ?_|refine ab J J J J J J J J (ja a b _ (by assumption)) J ?_|refine ab J J J J J J J J (fl a b _ (by assumption)) J ?_|refine ab J J J J J J J J (fl b a _ (by assumption)) J ?_))|refine wG ?_)
  all_goals rfl
 rw [show c8 a b = cJ a b by unfold c8; rw [if_neg hc,if_neg (by simp [h3]),if_neg (by simp [h4,h5])]]
 rcases hp : cJ a b with ⟨o,z⟩
 cases o with
 | none =>
   repeat' (first|(refine h1H ?_; (refine h0H ?_; first|refine ab J J J J J J J J (c89 _ _ _) J ?_|refine ab J J J J J J J J (ja a b _ (by assumption)) J ?_|refine ab J J J J J J J J (fl a b _ (by assumption)) J ?_|refine ab J J J J J J J J (fl b a _ (by assumption)) J ?_|refine ab J J J J J J J J (Cu a b (by assumption) (by assumption) _ (by assumption)) J ?_))|refine wG ?_)
   all_goals rfl
 | some x =>
   repeat' (first|(refine h1H ?_; (refine h0H ?_; first|refine ab J J J J J J J J (c89 _ _ _) J ?_|refine ab J J J J J J J J (ja a b _ (by assumption)) J ?_|refine ab J J J J J J J J (fl a b _ (by assumption)) J ?_|refine ab J J J J J J J J (fl b a _ (by assumption)) J ?_|refine bh 16 J J J J J J J J (Cv a b (by assumption) (by assumption) _ _ (by assumption)) J J J ?_))|refine wG ?_)
   all_goals rfl
set_option maxHeartbeats 2000000 in
theorem c57(a b : Arr) : CallA Tryz.prog 57 [aO a,aO b] [] (er (cB a b)) []:=by
 unfold aO
 refine enter ag Tryz.func57 rfl (by decide +kernel) rfl fun hok w0 σ0 φ0 M=>?_
 clear hok
 rcases xx a b with ⟨h1,hc⟩ | ⟨h1,h2,hc⟩ | ⟨h1,h2,hc⟩
 ·rw [show cB a b = (none,2) by unfold cB; rw [if_pos hc]]
  repeat' (first|(refine h1H ?_; (refine h0H ?_; refine ab J J J J J J J J (c89 _ _ _) J ?_))|refine wG ?_)
  all_goals rfl
 ·rw [show cB a b = (none,2) by unfold cB; rw [if_pos hc]]
  repeat' (first|(refine h1H ?_; (refine h0H ?_; refine ab J J J J J J J J (c89 _ _ _) J ?_))|refine wG ?_)
  all_goals rfl
 have ha : OkA a.dims a.attrs a.cells:=okA (by simpa using h1)
 have hb : OkA b.dims b.attrs b.cells:=okA (by simpa using h2)
 cases h3 : iE a b
 rotate_left
 ·rw [show cB a b = (none,11) by unfold cB; rw [if_neg hc,if_pos (by simp [h3])]]
  repeat' (first|(refine h1H ?_; (refine h0H ?_; first|refine ab J J J J J J J J (c89 _ _ _) J ?_|refine ab J J J J J J J J (ja a b _ (by assumption)) J ?_))|refine wG ?_)
  all_goals rfl
 cases h4 : cK a b
 rotate_left
 ·rw [show cB a b = (none,11) by unfold cB; rw [if_neg hc,if_pos (by simp [h4])]]
  repeat' (first|(refine h1H ?_; (refine h0H ?_; first|refine ab J J J J J J J J (c89 _ _ _) J ?_|refine ab J J J J J J J J (ja a b _ (by assumption)) J ?_|refine ab J J J J J J J J (fl a b _ (by assumption)) J ?_))|refine wG ?_)
  all_goals rfl
 cases h5 : cK b a
 rotate_left
 ·rw [show cB a b = (none,11) by unfold cB; rw [if_neg hc,if_pos (by simp [h5])]]
  repeat' (first|(refine h1H ?_; (refine h0H ?_; first|refine ab J J J J J J J J (c89 _ _ _) J ?_|refine ab J J J J J J J J (ja a b _ (by assumption)) J ?_|refine ab J J J J J J J J (fl a b _ (by assumption)) J ?_|refine ab J J J J J J J J (fl b a _ (by assumption)) J ?_))|refine wG ?_)
  all_goals rfl
 rw [show cB a b = cJ a b by unfold cB; rw [if_neg hc,if_neg (by simp [h3,h4,h5])]]
 rcases hp : cJ a b with ⟨o,z⟩
 cases o with
 | none =>
   repeat' (first|(refine h1H ?_; (refine h0H ?_; first|refine ab J J J J J J J J (c89 _ _ _) J ?_|refine ab J J J J J J J J (ja a b _ (by assumption)) J ?_|refine ab J J J J J J J J (fl a b _ (by assumption)) J ?_|refine ab J J J J J J J J (fl b a _ (by assumption)) J ?_|refine ab J J J J J J J J (Cu a b (by assumption) (by assumption) _ (by assumption)) J ?_))|refine wG ?_)
   all_goals rfl
 | some x =>
   repeat' (first|(refine h1H ?_; (refine h0H ?_; first|refine ab J J J J J J J J (c89 _ _ _) J ?_|refine ab J J J J J J J J (ja a b _ (by assumption)) J ?_|refine ab J J J J J J J J (fl a b _ (by assumption)) J ?_|refine ab J J J J J J J J (fl b a _ (by assumption)) J ?_|refine bh 16 J J J J J J J J (Cv a b (by assumption) (by assumption) _ _ (by assumption)) J J J ?_))|refine wG ?_)
   all_goals rfl
end Go.Proofs.YtpejdgkaapnekaaGreat
namespace Go.Proofs.YtpejdgkaapnekaaGreat
open Go Go.Abs
attribute [local irreducible] aa OkC aq aC ax aS
set_option maxRecDepth 10000
section
variable {ds : List Dim} {lo hi : List Int} {k : Nat}
theorem BE{n i : Nat}(h : i < n) : at_ (List.range n) i = i:=by simp [at_,List.getD_eq_getElem?_getD,h]
end
theorem iV{p : Cell→Bool}{l : List Cell}{k : Nat}(h : k < l.length) : (l.take (k + 1)).filter p = (l.take k).filter p ++ if p (at_ l k) then [at_ l k] else []:=by
 rw [ch h,List.filter_append]
 congr 1
 by_cases hp : p (at_ l k) = true
 ·simp [hp]
 ·simp [hp]
end Go.Proofs.YtpejdgkaapnekaaGreat
