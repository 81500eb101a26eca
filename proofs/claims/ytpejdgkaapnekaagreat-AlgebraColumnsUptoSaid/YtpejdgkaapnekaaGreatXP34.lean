import Derived.Test.YtpejdgkaapnekaaGreatXP33
import Derived.Test.YtpejdgkaapnekaaGreatXP14
import Derived.Test.YtpejdgkaapnekaaGreatXP15
import Derived.Test.YtpejdgkaapnekaaGreatXP22
import Derived.Test.YtpejdgkaapnekaaGreatXP11
import Derived.Test.YtpejdgkaapnekaaGreatXP13
set_option linter.unusedVariables false
set_option linter.unusedSimpArgs false
set_option maxHeartbeats 1000000
namespace Go.Proofs.YtpejdgkaapnekaaGreat
open Go Go.Abs
attribute [local irreducible] ae OkC ar aA av aN
set_option maxRecDepth 10000
theorem PF(x : Cell)(ha : x.at'.length≤1048576)(hv : x.vals.length≤1048576) : CallA Tryz.prog 95 [.agg [.d (aM x.at'),.d (aG x.vals)]] [] (.agg [.d (aM x.at'),.own 11 x.vals.length]) [(11,.row 4 40 (x.vals.map ab))]:=by
 refine enter af Tryz.func95 rfl (by decide +kernel) rfl fun hok w0 σ0 φ0 M=>?_
 clear hok
 repeat' (first|(refine h4H ?_; refine bf (bq (dl:=[10]) J) (bH ?_))|(refine h3H ?_; (refine h2H ?_; first|refine eM au 10 J J J (iz J J J J J J J J (by simp only [List.length_map,Nat.zero_add]; omega) (by simp only [List.length_map,Nat.zero_add]; omega)) J J ?_|refine eM au 11 J J J (iz J J J J J J J J (by simp only [List.length_map,Nat.zero_add]; omega) (by simp only [List.length_map,Nat.zero_add]; omega)) J J ?_))|refine wG ?_)
 all_goals
  show AV.agg [.d (.sl 1 8 ((List.take 0 [] ++ List.map bJ x.at').take (0 + (List.map bJ x.at').length))),.own 11 (0 + (List.map ab x.vals).length)] = _
  simp [aM,mR]
theorem zj(a : Arr)(name : List UInt8)(s : Scalar) :
  ((bI a.dims a.attrs a.cells != 0) = true∧fo a name s = (none,2)) ∨
  ((bI a.dims a.attrs a.cells != 0) = false∧(!bP name) = true∧fo a name s = (none,11)) ∨
  ((bI a.dims a.attrs a.cells != 0) = false∧(!bP name) = false∧cx a name = true∧fo a name s = (none,11)) ∨
  ((bI a.dims a.attrs a.cells != 0) = false∧(!bP name) = false∧cx a name = false∧decide ((6 : Int)≤((a.attrs.map aX).length : Int)) = true∧fo a name s = (none,9)) ∨
  ((bI a.dims a.attrs a.cells != 0) = false∧(!bP name) = false∧cx a name = false∧decide ((6 : Int)≤((a.attrs.map aX).length : Int)) = false∧((bU a.dims a.attrs a.cells s).2 != 0) = true∧fo a name s = (none,(bU a.dims a.attrs a.cells s).2)) ∨
  ((bI a.dims a.attrs a.cells != 0) = false∧(!bP name) = false∧cx a name = false∧decide ((6 : Int)≤((a.attrs.map aX).length : Int)) = false∧((bU a.dims a.attrs a.cells s).2 != 0) = false∧(bU a.dims a.attrs a.cells s).2 = 0∧fo a name s = (some ⟨a.dims,nY a name (bU a.dims a.attrs a.cells s).1,bz (a.cells.map (jC a s))⟩,0)):=by
 have hv : ∀ b,(!bD [a]) = b→(bI a.dims a.attrs a.cells != 0) = b:=fun b h=>by
  rw [← h]
  simp only [bD,gf,List.all_cons,List.all_nil,Bool.and_true]
  rfl
 have h6 : (!bD [a]) = false→a.attrs.length≤6:=fun h=>by
  have h1:=hv _ h
  exact (cH (okA (show bI a.dims a.attrs a.cells = 0 by simpa using h1)).sch).2.2.1
 rcases qF a name s with ⟨h,e⟩ | ⟨h,h1,e⟩ | ⟨h,h1,h2,e⟩ | ⟨h,h1,h2,h3,e⟩ | ⟨h,h1,h2,h3,h4,e⟩ | ⟨h,h1,h2,h3,h4,h5,e⟩
 ·exact .inl ⟨hv _ h,e⟩
 ·exact .inr (.inl ⟨hv _ h,h1,e⟩)
 ·exact .inr (.inr (.inl ⟨hv _ h,h1,h2,e⟩))
 ·have : a.attrs.length = 6:=by simp at h3; omega
  exact .inr (.inr (.inr (.inl ⟨hv _ h,h1,h2,by simp [this],e⟩)))
 ·have h7 : ¬ a.attrs.length = 6:=by simp at h3; omega
  have h8:=h6 h
  exact .inr (.inr (.inr (.inr (.inl ⟨hv _ h,h1,h2,by simp; omega,h4,e⟩))))
 ·have h7 : ¬ a.attrs.length = 6:=by simp at h3; omega
  have h8:=h6 h
  exact .inr (.inr (.inr (.inr (.inr ⟨hv _ h,h1,h2,by simp; omega,h4,h5,e⟩))))
theorem IH(ds : List Dim)(ats : List Attr)(l : List Cell)(zs ys : List (List D))(hd : l.Pairwise bZ)(h1 : ds.length≤1048576)(h2 : ats.length≤1048576)(h3 : ∀ c∈l,oF c)(hl : l.length≤4096)(hz : zs = ats.map aX)(hy : ys = l.map aD) : CallA Tryz.prog 101 [.one (.d (aF ds)),.one (.d (.sl 2 24 zs)),.one (.d (.sl 2 48 ys))] [] (.tup [(true,[.d (aF ds),.d (ax ats),.d (aO (bz l))]),(false,[.d (.int .i64 0)])]) []:=by
 subst hz; exact Nw ds ats l ys hd h1 h2 h3 hl hy
theorem Fx(a : Arr)(name : List UInt8)(t : Int){n m : Nat}(hm : m = a.attrs.length)(hn : a.attrs.length + 1≤n) : List.take n (List.take m (List.take 0 [] ++ a.attrs.map aX) ++ [[.str name,.int .i64 t]]) = (nY a name t).map aX:=by
 subst hm
 exact zk a name t hn
set_option maxHeartbeats 8000000 in
theorem c49(a : Arr)(name : List UInt8)(s : Scalar) : CallA Tryz.prog 49 [fa a,.one (.d (.str name)),de s] [] (jw (fo a name s)) []:=by
 unfold fa
 refine enter af Tryz.func49 rfl (by decide +kernel) rfl fun hok w0 σ0 φ0 M=>?_
 clear hok
 rcases zj a name s with ⟨hv,e⟩ | ⟨hv,hb1,e⟩ | ⟨hv,hb1,hb2,e⟩ | ⟨hv,hb1,hb2,hb3,e⟩ | ⟨hv,hb1,hb2,hb3,hb4,e⟩ | ⟨hv,hb1,hb2,hb3,hb4,ht,e⟩
 all_goals rw [e]
 rotate_right
 ·obtain ⟨hck,hp,hsz,hn⟩:=BS ht
  have hA:=okA hck
  have hcl : ∀ i,i < a.cells.length→(at_ a.cells i).at'.length = a.dims.length∧(at_ a.cells i).vals.length = a.attrs.length:=fun i hi =>
   let h:=cellF_ok.1 (hA.cel _ (bT hi)); ⟨h.1,h.2.1⟩
  have ha6:=(cH hA.sch).2.2.1
  have hd4:=hA.dims.2.1
  have hvs : ∀ i,i < a.cells.length→(at_ a.cells i).vals.length≤100000000:=fun i hi=>by rw [(hcl i hi).2]; omega
  have hsm2 : ∀ i,i < a.cells.length→(at_ a.cells i).at'.length≤1048576∧(at_ a.cells i).vals.length≤1048576:=fun i hi=>by rw [(hcl i hi).1,(hcl i hi).2]; omega
  have hdf : (a.cells.map (jC a s)).Pairwise bZ:=List.pairwise_map.2 ((cu hA.srt).imp fun h=>h)
  have hff : (a.cells.map (jC a s)).length≤4096:=by rw [List.length_map]; exact hA.few
  have hcn : a.cells.length≤4096:=hA.few
  have hd1 : a.dims.length≤1048576:=by omega
  have ha1 : (nY a name (bU a.dims a.attrs a.cells s).1).length≤1048576:=by simp [nY]; omega
  have hsm : ∀ c∈a.cells.map (jC a s),oF c:=fun c hc=>by
   obtain ⟨d,hd,rfl⟩:=List.mem_map.1 hc
   have h:=cellF_ok.1 (hA.cel d hd)
   exact ⟨by show d.at'.length≤_; omega,by show (d.vals ++ [_]).length≤_; simp; omega⟩
  repeat' (first|(refine h1H ?_; (refine h0H ?_; first|refine ey 40 [] (rav':=.agg [.d (aM (at_ a.cells q.1).at'),.own 51 (at_ a.cells q.1).vals.length]) (PF (at_ a.cells q.1) (hsm2 _ wB).1 (hsm2 _ wB).2) J J J J J J trivial di J J J J ?_|refine aa J J J J J J J J (c89 _ _ _) J ?_|refine aa J J J J J J J J (qG _) J ?_|refine aa J J J J J J J J (Hk _ _ _ _) J ?_|refine aa J J J J J J J J (c21 _ _ _ _) J ?_))|(refine h4H ?_; (show OkC _ _ (Code.region 16 _ _) _ _; refine bf (bq (dl:=[11]) J) ?_))|(refine h3H ?_; (refine h2H ?_; first|refine eM au 11 J J J (eF (i:=51) J J J J J J J J (hvs _ wB) (Nat.le_of_ble_eq_true J) (Nat.le_of_ble_eq_true J)) J J ?_|refine eM au 11 J J J (eF (i:=3) J J J J J J J J (by rw [List.length_map]; omega) (Nat.le_of_ble_eq_true J) (Nat.le_of_ble_eq_true J)) J J ?_|refine oD 60 [11,20] J J J J J J J J J (IH a.dims (nY a name (bU a.dims a.attrs a.cells s).1) (a.cells.map (jC a s)) _ _ hdf hd1 ha1 hsm hff (Fx a name _ (by simp) (by simp)) (BT hq3 wB)) J J ?_|refine d_l J J (aB J J J J J J (PG _ _ _ _ _ _ (hcl _ wB).1 (hcl _ wB).2 hp hn) J) ?_))|refine wG ?_|(refine h4H ?_; first|refine ah J (fun h=>?_) (fun h=>?_)|refine dX 12 J (dT (s:=10) (id:=20) (k:=2) (b:=48) J J J J) [(1,_),(3,_),(5,_),(6,_),(8,_)] (q5Q J J J J J) (fun (bN : Bool×Bool) (q : Nat×List (List D))=>[(10,.one (.own 20 q.1)),(11,.one (.d (.int .i64 (q.1 : Int))))]) (fun (bN : Bool×Bool) (q : Nat×List (List D))=>[(20,.row 2 48 q.2),(0,.box [.d (aF a.dims),.d (ax a.attrs),.d (aO a.cells)]),(1,.box [.d (.int .i64 s.op),.d (.str s.name),.d (.int .i64 s.val.kind),.d (.int .i64 s.val.num),.d (.int .i64 s.val.den),.d (.str s.val.str),.d (cI s.args)]),(2,.box [.d .nil,.d .nil,.d .nil])]) (fun (q : Nat×List (List D))=>q.1≤a.cells.length∧q.2 = ((a.cells.map (jC a s)).take q.1).map aD) (fun (q : Nat×List (List D))=>a.cells.length - q.1) (0,[]) (q2Q J J) wK (fun b y=>by obtain ⟨b1,b2⟩:=b; cases b1 <;> cases b2 <;> first|exact Imp.refl _|exact dY qN (by kernel_rfl)) ?_ (fun q ⟨hq1,hq3⟩=>?_))|(show Exists _; refine Exists.intro ((q.1 + 1,q.2.take q.1 ++ [[aM (at_ a.cells q.1).at',.sl 4 40 (List.take ((at_ a.cells q.1).vals.length + 1) (List.take (at_ a.cells q.1).vals.length ((at_ a.cells q.1).vals.map ab) ++ [ab (gy a.dims a.attrs (at_ a.cells q.1).at' (at_ a.cells q.1).vals s)]))]])) (Exists.intro (false,false) ⟨?_,?_,wK,(q2Q J J),(q5Q J J J J J)⟩)))
  all_goals first
   | rfl
   | exact ⟨Nat.zero_le _,rfl⟩
   | (have hlt : q.1 < a.cells.length:=by simpa using h
      exact ⟨hlt,BU hq3 hlt⟩)
   | (have hlt : q.1 < a.cells.length:=by simpa using h
      show a.cells.length - (q.1 + 1) < a.cells.length - q.1
      omega)
   | skip
 repeat' (first|(refine h1H ?_; (refine h0H ?_; first|refine aa J J J J J J J J (c89 _ _ _) J ?_|refine aa J J J J J J J J (qG _) J ?_|refine aa J J J J J J J J (Hk _ _ _ _) J ?_|refine aa J J J J J J J J (c21 _ _ _ _) J ?_))|refine wG ?_)
 all_goals rfl
def pkA(ats : List Attr)(n : List UInt8) : Attr:=at_ ats (atX ats n).toNat
theorem Ak{ats : List Attr}{n : List UInt8}(h : ¬ atX ats n < 0) : (pkA ats n).name = n:=by
 obtain ⟨k,h1,h2,h3,_⟩:=kR h
 unfold pkA
 have : atX ats n = (k : Int):=by unfold atX; rw [h1]; simp
 rw [this]
 simpa using h3
theorem CD{α : Type}{p : α→Bool} : ∀ {l : List α} {j : Nat},0≤aL p l j↔l.any p = true
 | [],j=>by simp [aL]
 | x::l,j=>by
   have ih:=CD (p:=p) (l:=l) (j:=j + 1)
   simp only [aL,List.any_cons,Bool.or_eq_true]
   by_cases h : p x = true
   ·rw [if_pos h]; simp [h]
   ·rw [if_neg h,ih]; simp [h]
theorem Al{ats : List Attr}{ns : List (List UInt8)}{n : List UInt8}(hns : ∀ x∈ns,¬ atX ats x < 0)(hn : ¬ atX ats n < 0) : (0≤aL (fun a : Attr=>a.name == n) (ns.map (pkA ats)) 0)↔(ns.map (atX ats)).contains (atX ats n) = true:=by
 rw [CD,List.any_map,List.any_eq_true]
 simp only [List.contains_eq_mem,decide_eq_true_eq,List.mem_map,Function.comp]
 constructor
 ·rintro ⟨x,hx,h⟩
  have h1:=Ak (hns x hx)
  have h2 : (pkA ats x).name = n:=by simpa using h
  exact ⟨x,hx,by rw [← h1,h2]⟩
 ·rintro ⟨x,hx,h⟩
  refine ⟨x,hx,?_⟩
  have h1:=Ak hn
  have h2 : pkA ats x = pkA ats n:=by unfold pkA; rw [h]
  rw [h2,h1]; simp
theorem Oa(zs : List (List D))(l : List Attr)(n : List UInt8)(h : zs = l.map aX) : CallA Tryz.prog 114 [.one (.d (.sl 2 24 zs)),.one (.d (.str n))] [] (.one (.d (.int .i64 (aL (fun a : Attr=>a.name == n) l 0)))) []:=by
 subst h; exact qK l n
theorem yh(a : Arr)(nq : List (List UInt8)) :
  ((bI a.dims a.attrs a.cells != 0) = true∧fN a nq = (none,2)) ∨
  ((bI a.dims a.attrs a.cells != 0) = false∧(((nq.map dz).length : Int) == 0) = true∧fN a nq = (none,2)) ∨
  ((bI a.dims a.attrs a.cells != 0) = false∧(((nq.map dz).length : Int) == 0) = false∧OkA a.dims a.attrs a.cells∧(ep a.attrs [] nq = none→fN a nq = (none,11)) ∧
    ∀ ks,ep a.attrs [] nq = some ks→SelK a.attrs nq ks∧fN a nq = (some ⟨a.dims,bF a.attrs ks,bz (a.cells.map (pjC ks))⟩,0)):=by
 have hv : ∀ b,(!bD [a]) = b→(bI a.dims a.attrs a.cells != 0) = b:=fun b h=>by
  rw [← h]
  simp only [bD,gf,List.all_cons,List.all_nil,Bool.and_true]
  rfl
 rcases pA a nq with ⟨h,e⟩ | ⟨h,h1,e⟩ | ⟨h,h1,h2,e⟩ | ⟨h,h1,ks,h2,h3,h4,e⟩
 ·exact .inl ⟨hv _ h,e⟩
 ·exact .inr (.inl ⟨hv _ h,h1,e⟩)
 ·refine .inr (.inr ⟨hv _ h,h1,okA (show bI a.dims a.attrs a.cells = 0 by simpa using hv _ h),fun _=>e,fun ks hs=>by rw [hs] at h2; cases h2⟩)
 ·refine .inr (.inr ⟨hv _ h,h1,h4,(fun hs=>by rw [hs] at h2; cases h2),fun ks' hs=>?_⟩)
  rw [h2] at hs
  cases hs
  exact ⟨h3,e⟩
theorem Mq{l : List Val}{ks : List Int}{n : Nat}{r : List (List D)}(hr : r = ((bF l ks).take n).map ab)(h : n < ks.length) : r.take n ++ [ab (at_ l (at_ ks n).toNat)] = ((bF l ks).take (n + 1)).map ab:=by
 have e:=jM ab (bF l ks) hr (by rw [eG]; exact h)
 rw [oH h] at e
 exact e
theorem Mr{a : Arr}{ks : List Int}{n m : Nat}{r r2 : List (List D)}(hr : r = ((a.cells.map (pjC ks)).take n).map aD)(h : n < a.cells.length)(h2 : r2 = ((bF (at_ a.cells n).vals ks).take m).map ab)(hm : ks.length≤m) : r.take n ++ [[aM (at_ a.cells n).at',.sl 4 40 (r2.take m)]] = ((a.cells.map (pjC ks)).take (n + 1)).map aD:=by
 have e:=jM aD (a.cells.map (pjC ks)) hr (by simpa using h)
 rw [eV h] at e
 have e2 : (((bF (at_ a.cells n).vals ks).take m).map ab).take m = (bF (at_ a.cells n).vals ks).map ab:=by
  rw [List.take_of_length_le (l:=bF (at_ a.cells n).vals ks) (by rw [eG]; exact hm),List.take_of_length_le (by rw [List.length_map,eG]; exact hm)]
 rw [← e,h2,e2]
 rfl
theorem Ms{a : Arr}{ks : List Int}{n : Nat}{r : List (List D)}(hr : r = ((a.cells.map (pjC ks)).take n).map aD)(h : a.cells.length≤n) : r.take n = (a.cells.map (pjC ks)).map aD:=by
 rw [hr,List.take_of_length_le (by simp; omega),List.take_of_length_le (by simpa using h)]
theorem JQ{ats : List Attr}{nq : List (List UInt8)}{n : Nat}{r : List (List D)}(hr : r = (nq.take n).map (fun x=>bJ (atX ats x)))(h : nq.length≤n) : r = (nq.map (atX ats)).map bJ:=by
 rw [hr,List.take_of_length_le h,List.map_map]; rfl
theorem JR{ats : List Attr}{nq : List (List UInt8)}{n : Nat}{r : List (List D)}(hr : r = (nq.take n).map (fun x=>aX (pkA ats x)))(h : nq.length≤n) : r = (bF ats (nq.map (atX ats))).map aX:=by
 rw [hr,List.take_of_length_le h]
 simp [bF,pkA,Function.comp_def]
theorem Gg{ats : List Attr}{n : List UInt8}(h : decide (aL (fun a : Attr=>a.name == n) ats 0 < 0) = false) : 0≤aL (fun a : Attr=>a.name == n) ats 0∧(aL (fun a : Attr=>a.name == n) ats 0).toNat < ats.length:=BR (of_decide_eq_false h)
theorem wo{ats : List Attr}{nq : List (List UInt8)}{k : Nat}(hs : ep ats [] nq = ep ats ((nq.take k).map (atX ats)) (nq.drop k))(h : nq.length≤k) : ep ats [] nq = some (nq.map (atX ats)):=by
 rw [hs,List.drop_eq_nil_of_le h,List.take_of_length_le h]; rfl
set_option maxHeartbeats 8000000 in
theorem c51(a : Arr)(nq : List (List UInt8))(hnn : nq.length≤1048576) : CallA Tryz.prog 51 [fa a,.one (.d (kQ nq))] [] (jw (fN a nq)) []:=by
 unfold fa
 refine enter af Tryz.func51 rfl (by decide +kernel) rfl fun hok w0 σ0 φ0 M=>?_
 clear hok
 rcases yh a nq with ⟨hv,e⟩ | ⟨hv,hb1,e⟩ | ⟨hv,hb1,hA,e1,e2⟩
 rotate_right
 ·have hcn:=hA.few
  have hd4:=hA.dims.2.1
  have hd1 : a.dims.length≤1048576:=by omega
  have hp1 : (bF a.attrs (nq.map (atX a.attrs))).length≤1048576:=by rw [eG,List.length_map]; exact hnn
  have hdf : (a.cells.map (pjC (nq.map (atX a.attrs)))).Pairwise bZ:=List.pairwise_map.2 ((cu hA.srt).imp fun h=>h)
  have hsm : ∀ c∈a.cells.map (pjC (nq.map (atX a.attrs))),oF c:=fun c hc=>by
   obtain ⟨d,hd,rfl⟩:=List.mem_map.1 hc
   have h:=cellF_ok.1 (hA.cel d hd)
   exact ⟨by show d.at'.length≤_; omega,by show (bF d.vals _).length≤_; rw [eG,List.length_map]; exact hnn⟩
  have hkc : ep a.attrs [] nq = some (nq.map (atX a.attrs))→∀ j,j < a.cells.length→∀ i,i < nq.length→0≤at_ (nq.map (atX a.attrs)) i∧(at_ (nq.map (atX a.attrs)) i).toNat < (at_ a.cells j).vals.length:=fun hsel j hj i hi=>by
   rw [(cellF_ok.1 (hA.cel _ (bT hj))).2.1]; exact (e2 _ hsel).1.rng i (by rw [List.length_map]; exact hi)
  repeat' (first|(refine h1H ?_; (refine h0H ?_; first|refine gx [21] J J J J J J J J J (Oa _ ((nq.take p.1).map (pkA a.attrs)) _ (by rw [hr2,List.take_of_length_le (by simp; omega),List.map_map]; rfl)) J ?_|refine dR 40 [21,22] J J J J J J J J J (IH a.dims (bF a.attrs (nq.map (atX a.attrs))) (a.cells.map (pjC (nq.map (atX a.attrs)))) _ _ hdf hd1 hp1 hsm (by rw [List.length_map]; omega) (List.take_of_length_le (by rw [List.length_map,eG,List.length_map]; exact Nat.le_refl _)) (Ms hq2 wB)) J J J ?_))|(refine h1H ?_; (refine Si ?_; refine s_e au J J J (ch J J J J J (Gg (by assumption)).1 (fy (Gg (by assumption)).2)) ?_))|(refine h1H ?_; (refine h0H ?_; refine aa J J J J J J J J (c89 _ _ _) J ?_))|(refine h4H ?_; first|(show OkC _ _ (Code.region 22 _ _) _ _; refine bf (bq (dl:=[10]) J) ?_)|rw [JQ hr1 wB,JR hr2 wB,show p.1 = nq.length from wB])|(refine h3H ?_; (refine Qa ?_; refine d_e au J J J (ch J J J J J (hkc (wo hs wB) q.1 wB _ wB).1 (fy (hkc (wo hs wB) q.1 wB _ wB).2)) ?_))|(refine h3H ?_; (refine h2H ?_; refine d_l J J (aB J J J J J J (qK _ _) J) ?_))|refine wG ?_|(refine h1H ?_; (refine h5H ?_; refine aJ J J J J (fun h=>?_) (fun h=>?_)))|(refine h4H ?_; first|refine ah J (fun h=>?_) (fun h=>?_)|refine dX 6 J (Imp.trans (dT (s:=6) (id:=20) (k:=1) (b:=8) J J J J) (dT (s:=7) (id:=21) (k:=2) (b:=24) J J J J)) [(1,_),(2,_),(4,_)] (q3Q J J J) (fun (bN : Bool×Bool) (p : Nat×List (List D)×List (List D))=>[(6,.one (.own 20 p.1)),(7,.one (.own 21 p.1)),(8,.one (.d (.int .i64 (p.1 : Int))))]) (fun (bN : Bool×Bool) (p : Nat×List (List D)×List (List D))=>[(20,.row 1 8 p.2.1),(21,.row 2 24 p.2.2),(0,.box [.d (aF a.dims),.d (ax a.attrs),.d (aO a.cells)]),(1,.box [.d .nil,.d .nil,.d .nil])]) (fun (p : Nat×List (List D)×List (List D))=>p.1≤nq.length∧p.2.1 = (nq.take p.1).map (fun n=>bJ (atX a.attrs n))∧p.2.2 = (nq.take p.1).map (fun n=>aX (pkA a.attrs n))∧ep a.attrs [] nq = ep a.attrs ((nq.take p.1).map (atX a.attrs)) (nq.drop p.1)∧(∀ n∈nq.take p.1,¬ atX a.attrs n < 0)) (fun (p : Nat×List (List D)×List (List D))=>nq.length - p.1) (0,[],[]) (q3Q J J J) wK (fun b y=>by obtain ⟨b1,b2⟩:=b; cases b1 <;> cases b2 <;> first|exact Imp.refl _|exact dY qN (by kernel_rfl)) ?_ (fun p ⟨hk,hr1,hr2,hs,hg⟩=>?_)|refine dX 15 J (dT (s:=10) (id:=22) (k:=2) (b:=48) J J J J) [(2,_),(4,_),(6,_),(7,_)] (q4Q J J J J) (fun (bN : Bool×Bool) (q : Nat×List (List D))=>[(10,.one (.own 22 q.1)),(11,.one (.d (.int .i64 (q.1 : Int))))]) (fun (bN : Bool×Bool) (q : Nat×List (List D))=>[(22,.row 2 48 q.2),(20,.row 1 8 ((nq.map (atX a.attrs)).map bJ)),(21,.row 2 24 ((bF a.attrs (nq.map (atX a.attrs))).map aX)),(0,.box [.d (aF a.dims),.d (ax a.attrs),.d (aO a.cells)]),(1,.box [.d .nil,.d .nil,.d .nil])]) (fun (q : Nat×List (List D))=>q.1≤a.cells.length∧q.2 = ((a.cells.map (pjC (nq.map (atX a.attrs)))).take q.1).map aD) (fun (q : Nat×List (List D))=>a.cells.length - q.1) (0,[]) (q2Q J J) wK (fun b y=>by obtain ⟨b1,b2⟩:=b; cases b1 <;> cases b2 <;> first|exact Imp.refl _|exact dY qN (by kernel_rfl)) ?_ (fun q ⟨hq1,hq2⟩=>?_)|refine dX 19 J (jZ 2 1 10 (k:=4) (b:=40) J J (by kernel_rfl)) [(2,_),(4,_),(6,_),(7,_),(10,_),(11,_),(12,_)] (q7Q J J J J J J J) (fun (bN : Bool×Bool) (u : Nat×List (List D))=>[(13,.one (.d (.int .i64 (u.1 : Int))))]) (fun (bN : Bool×Bool) (u : Nat×List (List D))=>[(2,.box [.d (aM (at_ a.cells q.1).at'),.own (nmA bN) u.1]),((nmA bN),.row 4 40 u.2),(22,.row 2 48 q.2),(20,.row 1 8 ((nq.map (atX a.attrs)).map bJ)),(21,.row 2 24 ((bF a.attrs (nq.map (atX a.attrs))).map aX)),(0,.box [.d (aF a.dims),.d (ax a.attrs),.d (aO a.cells)]),(1,.box [.d .nil,.d .nil,.d .nil])]) (fun (u : Nat×List (List D))=>u.1≤nq.length∧u.2 = ((bF (at_ a.cells q.1).vals (nq.map (atX a.attrs))).take u.1).map ab) (fun (u : Nat×List (List D))=>nq.length - u.1) (0,[]) (q1Q J) wK (fun b y=>by obtain ⟨b1,b2⟩:=b; cases b1 <;> cases b2 <;> first|exact Imp.refl _|exact dY qN (by kernel_rfl)) ?_ (fun u ⟨hu1,hu2⟩=>?_))|(show Exists _; first|refine Exists.intro ((u.1 + 1,u.2.take u.1 ++ [ab (at_ (at_ a.cells q.1).vals (at_ (nq.map (atX a.attrs)) u.1).toNat)])) (Exists.intro (true,false) ⟨?_,?_,wK,(q1Q J),(q7Q J J J J J J J)⟩)|refine Exists.intro ((q.1 + 1,q.2.take q.1 ++ [[aM (at_ a.cells q.1).at',.sl 4 40 (u.2.take u.1)]])) (Exists.intro (false,false) ⟨?_,?_,wK,(q2Q J J),(q4Q J J J J)⟩)|refine Exists.intro ((p.1 + 1,p.2.1.take p.1 ++ [[.int .i64 (atX a.attrs (at_ nq p.1))]],p.2.2.take p.1 ++ [aX (pkA a.attrs (at_ nq p.1))])) (Exists.intro (false,false) ⟨?_,?_,wK,(q3Q J J J),(q3Q J J J)⟩)))
  all_goals first
   | exact ⟨Nat.zero_le _,rfl,rfl,rfl,fun n h=>by simp at h⟩
   | exact ⟨Nat.zero_le _,rfl⟩
   | (have hlt : p.1 < nq.length:=by simpa using ‹decide ((p.1 : Int) < ((nq.map dz).length : Int)) = true›
      have hd : ¬ atX a.attrs (at_ nq p.1) < 0:=of_decide_eq_false ‹decide (aL (fun x : Attr=>x.name == at_ nq (p.1 : Int).toNat) a.attrs 0 < 0) = false›
      have hq:=Al hg hd
      have hc : ((nq.take p.1).map (atX a.attrs)).contains (atX a.attrs (at_ nq p.1)) = true:=hq.1 (of_decide_eq_true h)
      rw [e1 (by rw [hs,ao hlt,jL,if_neg hd,if_pos hc])]
      rfl)
   | (have hlt : p.1 < nq.length:=by simpa using ‹decide ((p.1 : Int) < ((nq.map dz).length : Int)) = true›
      have hd : ¬ atX a.attrs (at_ nq p.1) < 0:=of_decide_eq_false ‹decide (aL (fun x : Attr=>x.name == at_ nq (p.1 : Int).toNat) a.attrs 0 < 0) = false›
      have hc : ¬ ((nq.take p.1).map (atX a.attrs)).contains (atX a.attrs (at_ nq p.1)) = true:=fun hc=>of_decide_eq_false h ((Al hg hd).2 hc)
      refine ⟨hlt,jM (fun n=>bJ (atX a.attrs n)) nq hr1 hlt,jM (fun n=>aX (pkA a.attrs n)) nq hr2 hlt,?_,fun n hn=>?_⟩
      ·rw [hs,ao hlt,jL,if_neg hd,if_neg hc]
       show _ = ep a.attrs ((nq.take (p.1 + 1)).map (atX a.attrs)) (nq.drop (p.1 + 1))
       rw [ez hlt,List.map_append]; rfl
      ·have hn : n∈nq.take (p.1 + 1):=hn
       rw [ez hlt,List.mem_append] at hn
       rcases hn with hn | hn
       ·exact hg n hn
       ·rw [List.mem_singleton.1 hn]; exact hd)
   | (have hlt : p.1 < nq.length:=by simpa using ‹decide ((p.1 : Int) < ((nq.map dz).length : Int)) = true›
      show nq.length - (p.1 + 1) < nq.length - p.1
      omega)
   | (have hlt : p.1 < nq.length:=by simpa using ‹decide ((p.1 : Int) < ((nq.map dz).length : Int)) = true›
      have hd : atX a.attrs (at_ nq p.1) < 0:=of_decide_eq_true h
      rw [e1 (by rw [hs,ao hlt,jL,if_pos hd])]
      rfl)
   | (have hlt : u.1 < nq.length:=by simpa using h
      exact ⟨hlt,Mq hu2 (by rw [List.length_map]; exact hlt)⟩)
   | (have hlt : u.1 < nq.length:=by simpa using h
      show nq.length - (u.1 + 1) < nq.length - u.1
      omega)
   | (have hlt : q.1 < a.cells.length:=by simpa using ‹decide ((q.1 : Int) < ((a.cells.map aD).length : Int)) = true›
      have hge : nq.length≤u.1:=by simpa using h
      exact ⟨hlt,Mr hq2 hlt hu2 (by rw [List.length_map]; exact hge)⟩)
   | (have hlt : q.1 < a.cells.length:=by simpa using ‹decide ((q.1 : Int) < ((a.cells.map aD).length : Int)) = true›
      show a.cells.length - (q.1 + 1) < a.cells.length - q.1
      omega)
   | (have hge : nq.length≤p.1:=by simpa using ‹decide ((p.1 : Int) < ((nq.map dz).length : Int)) = false›
      rw [(e2 _ (wo hs hge)).2]
      rfl)
   | trace_state
 all_goals rw [e]
 repeat' (first|(refine h1H ?_; (refine h0H ?_; refine aa J J J J J J J J (c89 _ _ _) J ?_))|refine wG ?_)
 all_goals rfl
theorem QH(ds : List Dim)(ats : List Attr)(hd : ds.length≤1048576)(ha : ats.length≤1048576) : CallA Tryz.prog 94 [.one (.d (aF ds)),.one (.d (ax ats))] [] (.agg [.own 1 ds.length,.own 2 ats.length,.d .nil]) [(1,.row 3 32 (ds.map cm)),(2,.row 2 24 (ats.map aX))]:=by
 refine enter af Tryz.func94 rfl (by decide +kernel) rfl fun hok w0 σ0 φ0 M=>?_
 clear hok
 repeat' (first|(refine h1H ?_; (refine h0H ?_; first|refine cK af J J J J J (id:=1) J J J J J J J (by simp only [List.length_map,Nat.zero_add]; omega) (by simp only [List.length_map,Nat.zero_add]; omega) ?_|refine cK af J J J J J (id:=2) J J J J J J J (by simp only [List.length_map,Nat.zero_add]; omega) (by simp only [List.length_map,Nat.zero_add]; omega) ?_))|refine wG ?_)
 all_goals
  show AV.agg [.own 1 (0 + (List.map cm ds).length),.own 2 (0 + (List.map aX ats).length),.d .nil] = _
  simp
theorem LL(a : Arr)(hs : oG a) : CallA Tryz.prog 22 [.agg [.d (aF a.dims),.d (ax a.attrs),.d (aO a.cells)]] [] (.agg [.own 4 a.dims.length,.own 5 a.attrs.length,.d (aO a.cells)]) [(4,.row 3 32 (a.dims.map cm)),(5,.row 2 24 (a.attrs.map aX))]:=by
 have hcs:=hs.2.2.1
 refine enter af Tryz.func22 rfl (by decide +kernel) rfl fun hok w0 σ0 φ0 M=>?_
 clear hok
 repeat' (first|(refine h1H ?_; (refine h0H ?_; refine ey 3 [] (rav':=.agg [.own 4 a.dims.length,.own 5 a.attrs.length,.d .nil]) (QH a.dims a.attrs hs.1 hs.2.1) J J J J J J trivial di J J J J ?_))|(refine h4H ?_; refine bf (bq (dl:=[10]) J) (bH ?_))|(refine h3H ?_; (refine h2H ?_; refine bh 16 J J J J J J J J (c95 _ (hs.2.2.2 _ wB).1 (hs.2.2.2 _ wB).2) J J ?_))|refine wG ?_|(refine h4H ?_; first|refine ah J (fun h=>?_) (fun h=>?_)|refine dX 3 J (jZ 2 2 10 (k:=2) (b:=48) J J (by kernel_rfl)) [(1,_),(2,_),(3,_)] (q3Q J J J) (fun (bN : Bool×Bool) (p : Nat×List (List D))=>[(4,.one (.d (.int .i64 (p.1 : Int))))]) (fun (bN : Bool×Bool) (p : Nat×List (List D))=>[(2,.box [.own 4 a.dims.length,.own 5 a.attrs.length,.own (nmA bN) p.1]),((nmA bN),.row 2 48 p.2),(4,.row 3 32 (a.dims.map cm)),(5,.row 2 24 (a.attrs.map aX)),(1,.box [.d .nil,.d .nil,.d .nil]),(0,.box [.d (aF a.dims),.d (ax a.attrs),.d (aO a.cells)])]) (fun (p : Nat×List (List D))=>p.1≤a.cells.length∧p.2 = (a.cells.take p.1).map aD) (fun (p : Nat×List (List D))=>a.cells.length - p.1) (0,[]) (q1Q J) wK (fun b y=>by obtain ⟨b1,b2⟩:=b; cases b1 <;> cases b2 <;> first|exact Imp.refl _|exact dY qN (by kernel_rfl)) ?_ (fun p ⟨hk,hr⟩=>?_))|(show Exists _; refine Exists.intro ((p.1 + 1,p.2.take p.1 ++ [aD (at_ a.cells p.1)])) (Exists.intro (true,false) ⟨?_,?_,wK,(q1Q J),(q3Q J J J)⟩)))
 ·exact ⟨Nat.zero_le _,rfl⟩
 ·have hlt : p.1 < a.cells.length:=by simpa using h
  exact ⟨hlt,by show p.2.take p.1 ++ _ = _; rw [hr]; exact mE _ _ hlt⟩
 ·have hlt : p.1 < a.cells.length:=by simpa using h
  show a.cells.length - (p.1 + 1) < a.cells.length - p.1
  omega
 ·have hge : a.cells.length≤p.1:=by simpa using h
  show AV.agg [.own 4 a.dims.length,.own 5 a.attrs.length,.d (.sl 2 48 (p.2.take p.1))] = _
  rw [hr,List.take_of_length_le (by simp; omega),List.take_of_length_le hge]
  rfl
theorem nJ(a : Arr)(n : List UInt8)(b : Bool)(h : cx a n = b) : CallA Tryz.prog 113 [.agg [.d (aF a.dims),.d (ax a.attrs),.d (aO a.cells)],.one (.d (.str n))] [] (.one (.d (.bool b))) []:=by
 subst h; exact Hk a.dims a.attrs (aO a.cells) n
set_option maxHeartbeats 8000000 in
theorem c52(a : Arr)(n m : List UInt8) : CallA Tryz.prog 52 [fa a,.one (.d (.str n)),.one (.d (.str m))] [] (jw (jf a n m)) []:=by
 unfold fa
 refine enter af Tryz.func52 rfl (by decide +kernel) rfl fun hok w0 σ0 φ0 M=>?_
 clear hok
 have hv2 : ∀ b,(!bD [a]) = b→(bI a.dims a.attrs a.cells != 0) = b:=fun b h=>by
  rw [← h]
  simp only [bD,gf,List.all_cons,List.all_nil,Bool.and_true]
  rfl
 rcases q9 a n m with ⟨hv,e⟩ | ⟨hv,hb1,e⟩ | ⟨hv,hb1,hb2,e⟩ | ⟨hv,hb1,hb2,hb3,hb4,e⟩ | ⟨hv,hb1,hb2,hb34,hR,e⟩
 all_goals rw [e]
 all_goals replace hv:=hv2 _ hv
 ·repeat' (first|(refine h1H ?_; (refine h0H ?_; refine aa J J J J J J J J (c89 _ _ _) J ?_))|refine wG ?_)
  all_goals rfl
 ·have hbn : cx a n = false:=by simpa using hb1
  repeat' (first|(refine h1H ?_; (refine h0H ?_; first|refine aa J J J J J J J J (c89 _ _ _) J ?_|refine aa J J J J J J J J (nJ a n _ hbn) J ?_))|refine wG ?_)
  all_goals rfl
 ·have hbn : cx a n = true:=by simpa using hb1
  repeat' (first|(refine h1H ?_; (refine h0H ?_; first|refine aa J J J J J J J J (c89 _ _ _) J ?_|refine aa J J J J J J J J (qG _) J ?_|refine aa J J J J J J J J (nJ a n _ hbn) J ?_))|refine wG ?_)
  all_goals rfl
 ·have hbn : cx a n = true:=by simpa using hb1
  repeat' (first|(refine h1H ?_; (refine h0H ?_; first|refine aa J J J J J J J J (c89 _ _ _) J ?_|refine aa J J J J J J J J (qG _) J ?_|refine aa J J J J J J J J (nJ a n _ hbn) J ?_|refine aa J J J J J J J J (nJ a m _ hb4) J ?_))|refine wG ?_)
  all_goals rfl
 have hbn : cx a n = true:=by simpa using hb1
 have hcn:=hR.oka.few
 have hd1:=hR.oka.dims.1
 have hd4:=hR.oka.dims.2.1
 have ha1:=(cH hR.oka.sch).2.1
 have ha6:=(cH hR.oka.sch).2.2.1
 have hsm : oG a:=⟨by omega,by omega,by omega,fun k hk=>by
  have h:=cellF_ok.1 (hR.oka.cel _ (bT hk))
  exact ⟨by omega,by omega⟩⟩
 rcases hR.which with ⟨k,hX,hk,hn,e2⟩ | ⟨hnd,k,hX,hk,hn,e2⟩
 all_goals (try rw [e2])
 ·have hp : decide (0≤(k : Int)) = true:=by simp
  rcases (show ((!(m == n)) = false∧cx a m = true)∨((!(m == n)) = true∧cx a m = false) from by
   rcases hb34 with h | h
   ·exact .inl ⟨h,by rw [show m = n by simpa using h]; exact hbn⟩
   ·exact .inr h) with ⟨hb3,hb5⟩ | ⟨hb3,hb5⟩
  repeat' (first|(refine h1H ?_; (refine h0H ?_; first|refine ey 16 [] (rav':=.agg [.own 20 a.dims.length,.own 21 a.attrs.length,.d (aO a.cells)]) (LL a hsm) J J J J J J trivial di J J J J ?_|refine aa J J J J J J J J (c89 _ _ _) J ?_|refine aa J J J J J J J J (qG _) J ?_|refine aa J J J J J J J J (nJ a n _ hbn) J ?_|refine aa J J J J J J J J (nJ a m _ hb5) J ?_))|(refine h4H ?_; refine bf (bq (dl:=[20,21]) J) (bH ?_))|(refine h3H ?_; (refine h2H ?_; first|refine d_l J J (aB J J J J J J (Nz a.dims n k hX) J) ?_|refine d_l J J (aB J J J J J J (qK _ _) J) ?_))|refine wG ?_)
  all_goals
   show AV.tup [(true,[.d (.sl 3 32 (((a.dims.map cm).set k (cm ⟨m,(at_ a.dims k).lo,(at_ a.dims k).hi⟩)).take a.dims.length)),.d (.sl 2 24 ((a.attrs.map aX).take a.attrs.length)),.d (aO a.cells)]),(false,[.d (.int .i64 0)])] = _
   rw [B8,List.take_of_length_le (by simp),List.take_of_length_le (by simp)]
   rfl
 ·have hp : decide (0≤aL (fun x : Dim=>x.name == n) a.dims 0) = false:=by
   have : ¬ 0≤er a.dims n:=fun hh=>hnd (dimX_mem.1 hh)
   exact decide_eq_false this
  rcases (show ((!(m == n)) = false∧cx a m = true)∨((!(m == n)) = true∧cx a m = false) from by
   rcases hb34 with h | h
   ·exact .inl ⟨h,by rw [show m = n by simpa using h]; exact hbn⟩
   ·exact .inr h) with ⟨hb3,hb5⟩ | ⟨hb3,hb5⟩
  repeat' (first|(refine h1H ?_; (refine h0H ?_; first|refine ey 16 [] (rav':=.agg [.own 20 a.dims.length,.own 21 a.attrs.length,.d (aO a.cells)]) (LL a hsm) J J J J J J trivial di J J J J ?_|refine aa J J J J J J J J (c89 _ _ _) J ?_|refine aa J J J J J J J J (qG _) J ?_|refine aa J J J J J J J J (nJ a n _ hbn) J ?_|refine aa J J J J J J J J (nJ a m _ hb5) J ?_))|(refine h4H ?_; refine bf (bq (dl:=[20,21]) J) (bH ?_))|(refine h3H ?_; (refine h2H ?_; first|refine d_l J J (aB J J J J J J (NA a.attrs n k hX) J) ?_|refine d_l J J (aB J J J J J J (vJ _ _) J) ?_))|refine wG ?_)
  all_goals
   show AV.tup [(true,[.d (.sl 3 32 ((a.dims.map cm).take a.dims.length)),.d (.sl 2 24 (((a.attrs.map aX).set k (aX ⟨m,(at_ a.attrs k).type⟩)).take a.attrs.length)),.d (aO a.cells)]),(false,[.d (.int .i64 0)])] = _
   rw [zZ,List.take_of_length_le (by simp),List.take_of_length_le (by simp)]
   rfl
section
variable {src kept : List (Int×Bool)} {ds : List Dim} {rule : Int} {l l' r : List Cell} {c : Cell}
end
theorem DF{P : Program}{f : FuncId}{args args' : List AV}{sto : Sto}{rav : AV}{rsto : Sto}(h : CallA P f args sto rav rsto)(hw : ∀ σ φ vs,All2 (RepV σ φ sto) args' vs→All2 (RepV σ φ sto) args vs) : CallA P f args' sto rav rsto :=
 ⟨h.fn,fun w σ φ vs hi ha=>h.run w σ φ vs hi (hw σ φ vs ha)⟩
theorem tJ{σ : Sig}{φ : Pl}{sto : Sto}{k b : Nat}{v : Value}(h : RepC σ φ sto (.d .nil) v) : RepC σ φ sto (.d (.sl k b [])) v:=by
 have h1:=RepC.d_inv h
 cases h1
 exact .d (.sl (fun _ _=>undef) (by simp) (by simp) (by simp) (by simp) (by simp) (by simp))
theorem B3{σ : Sig}{φ : Pl}{sto : Sto}{v : Value}(h : RepV σ φ sto (.agg [.d .nil,.d .nil,.d .nil]) v) : RepV σ φ sto (tK ([],[],[])) v:=by
 obtain ⟨vs,rfl,h2⟩:=h
 match vs,h2 with
 | [x,y,z],h2=>exact ⟨_,rfl,tJ h2.1,tJ h2.2.1,tJ h2.2.2.1,trivial⟩
 | [],h2=>exact h2.elim
 | [_],h2=>exact h2.2.elim
 | [_,_],h2=>exact h2.2.2.elim
 | _::_::_::_::_,h2=>exact h2.2.2.2.elim
theorem pL(x : List Dim×List Attr×List Cell) : uI x x = true:=by
 unfold uI
 rw [(mW FU).2 rfl,(mW DG).2 rfl,(mW DH).2 rfl]
 rfl
theorem HI(e : Int) : CallA Tryz.prog 25 [.agg [.d .nil,.d .nil,.d .nil],.one (.d (.int .i64 e)),.agg [.d .nil,.d .nil,.d .nil],.one (.d (.int .i64 e))] [] (.one (.d (.bool true))) []:=by
 have h:=c25 ([],[],[]) ([],[],[]) e e
 rw [pL,show (e == e && true) = true by simp] at h
 refine DF h fun σ φ vs hv=>?_
 match vs,hv with
 | [x,y,z,w],hv=>exact ⟨B3 hv.1,hv.2.1,B3 hv.2.2.1,hv.2.2.2⟩
 | [],hv=>exact hv.elim
 | [_],hv=>exact hv.2.elim
 | [_,_],hv=>exact hv.2.2.elim
 | [_,_,_],hv=>exact hv.2.2.2.elim
 | _::_::_::_::_::_,hv=>exact hv.2.2.2.2.elim
theorem HJ(y : Arr) : CallA Tryz.prog 25 [fa y,.one (.d (.int .i64 0)),fa y,.one (.d (.int .i64 0))] [] (.one (.d (.bool true))) []:=by
 have h:=c25 (y.dims,y.attrs,y.cells) (y.dims,y.attrs,y.cells) 0 0
 rw [pL,show ((0 : Int) == 0 && true) = true by simp] at h
 exact h
theorem Qm(y : Arr) : CallA Tryz.prog 28 [fa y,fa y] [] (.one (.d (.bool true))) []:=by
 have h:=c28 (y.dims,y.attrs,y.cells) (y.dims,y.attrs,y.cells)
 rw [pL] at h
 exact h
theorem kX{P : Program}{f : FuncId}{args : List AV}{r : Option Arr×Int}{y : Arr}(h : CallA P f args [] (jw r) [])(e : r = (some y,0)) : CallA P f args [] (.tup [(true,[.d (aF y.dims),.d (ax y.attrs),.d (aO y.cells)]),(false,[.d (.int .i64 0)])]) []:=by
 rw [e] at h; exact h
theorem kY{P : Program}{f : FuncId}{args : List AV}{r : Option Arr×Int}{e : Int}(h : CallA P f args [] (jw r) [])(he : r = (none,e)) : CallA P f args [] (.tup [(true,[.d .nil,.d .nil,.d .nil]),(false,[.d (.int .i64 e)])]) []:=by
 rw [he] at h; exact h
theorem IB(a : Arr)(n : List UInt8)(s : Scalar) : (∃ e,fo a n s = (none,e))∨∃ z,fo a n s = (some z,0):=by
 rcases qF a n s with ⟨_,e⟩ | ⟨_,_,e⟩ | ⟨_,_,_,e⟩ | ⟨_,_,_,_,e⟩ | ⟨_,_,_,_,_,e⟩ | ⟨_,_,_,_,_,_,e⟩
 ·exact .inl ⟨_,e⟩
 ·exact .inl ⟨_,e⟩
 ·exact .inl ⟨_,e⟩
 ·exact .inl ⟨_,e⟩
 ·exact .inl ⟨_,e⟩
 ·exact .inr ⟨_,e⟩
theorem GS(a : Arr)(nq : List (List UInt8)) : (∃ e,fN a nq = (none,e))∨∃ z,fN a nq = (some z,0):=by
 rcases pA a nq with ⟨_,e⟩ | ⟨_,_,e⟩ | ⟨_,_,_,e⟩ | ⟨_,_,_,_,_,_,e⟩
 ·exact .inl ⟨_,e⟩
 ·exact .inl ⟨_,e⟩
 ·exact .inl ⟨_,e⟩
 ·exact .inr ⟨_,e⟩
theorem IC(a : Arr)(n m : List UInt8) : (∃ e,jf a n m = (none,e))∨∃ z,jf a n m = (some z,0):=by
 rcases q9 a n m with ⟨_,e⟩ | ⟨_,_,e⟩ | ⟨_,_,_,e⟩ | ⟨_,_,_,_,_,e⟩ | ⟨_,_,_,_,_,e⟩
 ·exact .inl ⟨_,e⟩
 ·exact .inl ⟨_,e⟩
 ·exact .inl ⟨_,e⟩
 ·exact .inl ⟨_,e⟩
 ·exact .inr ⟨_,e⟩
set_option maxHeartbeats 8000000 in
theorem c14(a : Arr)(s : Scalar)(n m : List UInt8)(nq : List (List UInt8))(hs : oG a)(hnn : nq.length≤1048576) : CallA Tryz.prog 14 [fa a,de s,.one (.d (.str n)),.one (.d (.str m)),.one (.d (kQ nq))] [] (.one (.d (.bool true))) []:=by
 unfold fa
 refine enter af Tryz.func14 rfl (by decide +kernel) rfl fun hok w0 σ0 φ0 M=>?_
 clear hok
 rcases IB a m s with ⟨e1,h1⟩ | ⟨y1,h1⟩ <;> rcases GS a nq with ⟨e2,h2⟩ | ⟨y2,h2⟩ <;> rcases IC a n m with ⟨e3,h3⟩ | ⟨y3,h3⟩
 repeat' (first|(refine h1H ?_; (refine h0H ?_; first|refine aa J J J J J J J J (c19) J ?_|refine aa J J J J J J J J (HI e1) J ?_|refine aa J J J J J J J J (HJ y1) J ?_|refine aa J J J J J J J J (HI e2) J ?_|refine aa J J J J J J J J (HJ y2) J ?_|refine aa J J J J J J J J (HI e3) J ?_|refine aa J J J J J J J J (HJ y3) J ?_|refine aa J J J J J J J J (Qm a) J ?_|refine aa J J J J J J J J (kY (c44 a m s) h1) J ?_|refine aa J J J J J J J J (kY (c49 a m s) h1) J ?_|refine aa J J J J J J J J (kY (c50 a nq hnn) h2) J ?_|refine aa J J J J J J J J (kY (c51 a nq hnn) h2) J ?_|refine aa J J J J J J J J (kY (c48 a n m) h3) J ?_|refine aa J J J J J J J J (kY (c52 a n m) h3) J ?_|refine az 16 J J J J J J J J (c22 a hs) J J J ?_|refine az 16 J J J J J J J J (kX (c44 a m s) h1) J J J ?_|refine az 16 J J J J J J J J (kX (c49 a m s) h1) J J J ?_|refine az 16 J J J J J J J J (kX (c50 a nq hnn) h2) J J J ?_|refine az 16 J J J J J J J J (kX (c51 a nq hnn) h2) J J J ?_|refine az 16 J J J J J J J J (kX (c48 a n m) h3) J J J ?_|refine az 16 J J J J J J J J (kX (c52 a n m) h3) J J J ?_))|refine wG ?_|(refine h1H ?_; (refine h5H ?_; refine aJ J J J J (fun h=>?_) (fun h=>?_)))|(refine h4H ?_; refine ah J (fun h=>?_) (fun h=>?_)))
 all_goals first
  | rfl
  | trace_state
end Go.Proofs.YtpejdgkaapnekaaGreat
namespace Go.Proofs.YtpejdgkaapnekaaGreat
open Go Go.Abs
open Go.ChangeShapes Go.WideShapes Go.ChangeAt Go.RowKit
set_option maxRecDepth 100000 in
theorem tA(H : Type)(en : TypeId×Value→H)(W : World)(base : Nat)(args : Array Value)(ds gs : List (DataW H))(before : List MemPlace)
  (hval : ∀ (j : Nat) t v,Tryz.f14.params[j]? = some t→args[j]? = some v→Value.okWide Tryz.prog W .any base t v)
  (hW : DataW.Whole en Tryz.prog Tryz.f14.params.toList Rows.algebraColumnsSpec.vars false W args.toList ds gs before) (hk : Rows.uptoSmall H (ds ++ gs) = true) :
  Calls Tryz.prog 14 args W fun e W'=>∃ v,e = .returned v∧Rows.algebraColumnsSpec.post en Tryz.prog Tryz.f14 false true false false W args v W':=by
 have hW':=hW
 obtain ⟨p,q,hA0,hV,rfl,hfz,hnd⟩:=hW
 have hA : DataW.TrodAll en Tryz.prog W 0 (fun _=>true) true Tryz.f14.params.toList args.toList ds p:=hA0
 rw [Tryz.params14] at hA hval
 obtain ⟨v0,vs0,d0,ds0,p0,q0,hargs,rfl,rfl,h0,r0⟩:=trodAll_cons hA
 obtain ⟨v1,vs1,d1,ds1,p1,q1,rfl,rfl,rfl,h1,r1⟩:=trodAll_cons r0
 obtain ⟨v2,vs2,d2,ds2,p2,q2,rfl,rfl,rfl,h2,r2⟩:=trodAll_cons r1
 obtain ⟨v3,vs3,d3,ds3,p3,q3,rfl,rfl,rfl,h3,r3⟩:=trodAll_cons r2
 obtain ⟨v4,vs4,d4,ds4,p4,q4,rfl,rfl,rfl,h4,r4⟩:=trodAll_cons r3
 obtain ⟨rfl,rfl,rfl⟩:=trodAll_nil r4
 obtain rfl : args = #[v0,v1,v2,v3,v4]:=by cases args; simp_all
 obtain ⟨rfl,rfl⟩:=trodVars_none hV
 obtain ⟨cs0,rfl⟩:=uB Tryz.underlying26 (hval 0 26 v0 rfl rfl)
 obtain ⟨cs1,rfl⟩:=uB Tryz.underlying31 (hval 1 31 v1 rfl rfl)
 obtain ⟨s2,rfl⟩:=okWide_string Tryz.underlying9 (hval 2 9 v2 rfl rfl)
 obtain ⟨s3,rfl⟩:=okWide_string Tryz.underlying9 (hval 3 9 v3 rfl rfl)
 obtain ⟨s4,l4,c4,rfl⟩:=okWide_slice Tryz.underlying45 (hval 4 45 v4 rfl rfl)
 have hbk : (Rows.uptoBulk d0 + (Rows.uptoBulk d1 + (Rows.uptoBulk d2 + (Rows.uptoBulk d3 + (Rows.uptoBulk d4)))))≤1048576:=by
  simpa [Rows.uptoSmall,Rows.uptoBulkAll] using hk
 obtain ⟨f0,h0⟩:=h0
 obtain ⟨f1,h1⟩:=h1
 obtain ⟨f2,h2⟩:=h2
 obtain ⟨f3,h3⟩:=h3
 obtain ⟨f4,h4⟩:=h4
 obtain ⟨a0,hl0,ha0⟩:=Li (N:=1048571) (by omega) f0 _ _ h0 (by show Rows.uptoBulk d0≤_; omega)
 obtain ⟨a1,hl1,ha1⟩:=FE 1048576 (by omega) f1 _ _ h1 (by show Rows.uptoBulk d1≤_; omega)
 rw [vQ] at ha1
 obtain ⟨a2,hl2,ha2⟩:=mU (N:=1048576) (by omega) Tryz.underlying9 f2 _ _ h2 (by show Rows.uptoBulk d2≤_; omega)
 obtain ⟨a3,hl3,ha3⟩:=mU (N:=1048576) (by omega) Tryz.underlying9 f3 _ _ h3 (by show Rows.uptoBulk d3≤_; omega)
 obtain ⟨a4,hl4,ha4⟩:=jD (f:=dz) (N:=1048575) (k:=1) (b:=16) (by omega) (by omega) (by omega) Tryz.underlying45 qM (mU (by omega) Tryz.underlying9) f4 _ _ h4 (by show Rows.uptoBulk d4≤_; omega)
 refine ((c14 a0 a1 a2 a3 a4 (FF hl0) (Nat.le_succ_of_le hl4.1)).run W (sg W) (fun _=>none) [.agg cs0.toArray,.agg cs1.toArray,.string s2,.string s3,.slice s4 l4 c4] (Lj _) ⟨⟨cs0,rfl,mG ha0⟩,⟨cs1,rfl,mG ha1⟩,RepC.d ha2.1,RepC.d ha3.1,RepC.d ha4.1,trivial⟩).mono fun e W' ⟨v,σ',φ',he,hret⟩=>?_
 subst he
 have hv : v = .bool true:=by
  have h2:=RepC.d_inv hret.rep
  cases h2; rfl
 subst hv
 have hsame : ∀ p∈p0 ++ (p1 ++ (p2 ++ (p3 ++ (p4 ++ [])))),W.sameAt W' p:=fun p hp=>Ht hret.kept (hW'.lt p (by simpa using hp))
 have hAk:=zA hA0 hsame
 exact ⟨_,rfl,_,_,_,[],_,[],hW',trodAll_mk1 (Hu true),DataW.TrodAll.respare P4 P5 (by
   rw [Tryz.params14]
   intro t ht
   have ht' : t = 26∨t = 31∨t = 9∨t = 9∨t = 45:=by simpa using ht
   rcases ht' with rfl | rfl | rfl | rfl | rfl <;> exact few (by omega)) hAk (fun p hp=>by
    have:=hW'.lt p (by simpa using hp)
    simpa using this),rfl,Jt hret.kept _,fun h=>by cases h⟩
end Go.Proofs.YtpejdgkaapnekaaGreat
