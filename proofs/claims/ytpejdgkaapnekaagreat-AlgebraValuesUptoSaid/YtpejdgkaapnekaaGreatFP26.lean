import Derived.Shelf.SlSortCmp.WholeK
import Derived.Shelf.SlSortCmp.NoneTotal
import Derived.Test.YtpejdgkaapnekaaGreatFP20
import Derived.Test.YtpejdgkaapnekaaGreatFP25
import Derived.Test.YtpejdgkaapnekaaGreatFP17
import Derived.Test.YtpejdgkaapnekaaGreatFP16
import Derived.Test.YtpejdgkaapnekaaGreatFTab
import Derived.Test.YtpejdgkaapnekaaGreatFP14
set_option linter.unusedVariables false
set_option linter.unusedSimpArgs false
set_option maxHeartbeats 1000000
namespace Go.Proofs.YtpejdgkaapnekaaGreat
open Go Go.Abs
attribute [local irreducible] ao OkC aU bg aV bA OkR lI c6 db ov
set_option maxRecDepth 10000
def iF(li : LI)(fr : List (Nat×AV))(A : List D)(r : Nat)(a : List Int×Bool×Int) : Sto :=
 [(1000000,.loop li fr (zV a.2.1) (tq a.2.1)),(1000001,.box (A.map .d)),(1000002,.box [.d (.int .i64 0)]),(1000003,.box [.d (.int .i64 a.2.2)]),(1000004,.box [.own r a.1.length]),(r,.row 1 8 (a.1.map dA))]
theorem nO{s : Sto} : ∀ {A : List D},eu s (A.map .d) = true
 | []=>rfl
 | x::r=>by simp only [List.map_cons,eu,ci,nO (A:=r),Bool.and_self]
theorem Im(li : LI)(fr : List (Nat×AV))(A : List D)(hf : ∀ a,io (iF li fr A 2000000 a) fr = true) : FamW (iF li fr A 2000000):=by
 refine ⟨fun a i e h=>?_,fun a=>?_,fun a=>⟨li,fr,zV a.2.1,tq a.2.1,rfl⟩,fun a=>rfl⟩
 ·unfold iF at h
  rcases aB h with ⟨rfl,_⟩ | ⟨_,h⟩
  ·omega
  rcases aB h with ⟨rfl,_⟩ | ⟨_,h⟩
  ·omega
  rcases aB h with ⟨rfl,_⟩ | ⟨_,h⟩
  ·omega
  rcases aB h with ⟨rfl,_⟩ | ⟨_,h⟩
  ·omega
  rcases aB h with ⟨rfl,_⟩ | ⟨_,h⟩
  ·omega
  rcases aB h with ⟨rfl,_⟩ | ⟨_,h⟩
  ·omega
  ·exact nomatch h
 ·show (io (iF li fr A 2000000 a) fr && (eu (iF li fr A 2000000 a) (A.map .d) && _)) = true
  rw [hf a,nO]; rfl
theorem y88{li : LI}{fr : List (Nat×AV)}{A : List D}(ds : List Dim)(ats : List Attr)(a : List Int×Bool×Int)(x : Scalar)(hok : nG a x)
  (hps : (iv li.n li.params.toList && Nat.beq li.params.toList.length 1) = true)
  (h : ∀ (l : List Int),l.length≤64→(4≤x.op→x.args.length≤l.length)→dv x = true→∀ (w0 : World) (σ0 : Sig) (φ0 : Pl) (M : Nat→Prop) (B : Nat),OkC Tryz.prog ⟨w0,σ0,φ0,M,li.n,some B,[]⟩ li.assign ⟨fK li.params.toList [du x] fr,iF li fr A 2000000 (l,false,0)⟩
   (db Tryz.prog 1000000 ⟨w0,σ0,φ0,M,li.n,some B,[]⟩ li.body (.one (.d (.bool (F88 ds ats (l,false,0) x).1))) (iF li fr A 2000000 (F88 ds ats (l,false,0) x).2))) :
  YieldA Tryz.prog 1000000 [du x] (iF li fr A 2000000 a) (.one (.d (.bool (F88 ds ats a x).1))) (iF li fr A 2000000 (F88 ds ats a x).2):=by
 obtain ⟨l,d,e⟩:=a
 obtain ⟨rfl,rfl,hp,h64,hargs⟩ : d = false∧e = 0∧dv x = true∧l.length≤64∧(4≤x.op→x.args.length≤l.length):=hok
 exact oB ⟨by omega,by omega⟩ rfl hps (h l h64 hargs hp)
def q88(i : Nat) : Nat:=bif Nat.beq i 1000005 then 2000000 else i
def p88(i : Nat) : Nat:=bif Nat.beq i 2000000 then 5 else i
theorem wE{sto : Sto}{li : LI}{fr : List (Nat×AV)}{A : List D}{l : List Int}{t : Int}{m : Nat}(hm : m≤l.length)(h1 : Abs.look sto 1000000 = some (.loop li fr .ready none))(h2 : Abs.look sto 1000001 = some (.box (A.map .d)))(h3 : Abs.look sto 1000002 = some (.box [.d (.int .i64 0)]))
  (h4 : Abs.look sto 1000003 = some (.box [.d (.int .i64 0)])) (h5 : Abs.look sto 1000004 = some (.box [.own 2000000 (m + 1)])) (h6 : Abs.look sto 2000000 = some (.row 1 8 ((l.map dA).take m ++ [[.int .i64 t]]))) : SubL sto (iF li fr A 2000000 (l.take m ++ [t],false,0)):=by
 refine ⟨h1,h2,h3,h4,?_,?_,trivial⟩
 ·rw [h5]; simp [Nat.min_eq_left hm]
 ·rw [h6]; simp [dA,List.map_take]
theorem zW{sto : Sto}{li : LI}{fr : List (Nat×AV)}{A : List D}{l : List Int}{t : Int}(h1 : Abs.look sto 1000000 = some (.loop li fr .ready none))(h2 : Abs.look sto 1000001 = some (.box (A.map .d)))(h3 : Abs.look sto 1000002 = some (.box [.d (.int .i64 0)]))
  (h4 : Abs.look sto 1000003 = some (.box [.d (.int .i64 0)])) (h5 : Abs.look sto 1000004 = some (.box [.own 2000000 (l.length + 1)])) (h6 : Abs.look sto 2000000 = some (.row 1 8 ((l.map dA).take l.length ++ [[.int .i64 t]]))) : SubL sto (iF li fr A 2000000 (l ++ [t],false,0)):=by
 have:=wE (Nat.le_refl _) h1 h2 h3 h4 h5 h6
 rwa [List.take_length] at this
set_option maxHeartbeats 4000000 in
theorem c88(ds : List Dim)(ats : List Attr)(cs : D)(s : Scalar)(hp : dq s = true)(hsz : (bB s).length≤64) : CallA Tryz.prog 88 [.agg [.d (bZ ds),.d (bT ats),.d cs],du s] [] (ie (cM dQ ds ats s)) []:=by
 obtain ⟨h0,hrun⟩:=JS (ds:=ds) (ats:=ats) s hp [] (by simp; omega)
 obtain ⟨⟨l',d',e'⟩,hR⟩ : ∃ a,(b5 (F88 ds ats) (bB s) ([],false,0)).2 = a:=⟨_,rfl⟩
 have hend : (d' = true∧e' = (cM dQ ds ats s).2∧e'≠0)∨(d' = false∧e' = 0∧(cM dQ ds ats s).2 = 0∧l' = [(cM dQ ds ats s).1]):=by
  by_cases hz : (cM dQ ds ats s).2 = 0
  ·rw [if_pos hz] at hrun
   rw [hrun] at hR
   cases hR
   exact .inr ⟨rfl,rfl,hz,rfl⟩
  ·rw [if_neg hz] at hrun
   obtain ⟨l2,hrun⟩:=hrun
   rw [hrun] at hR
   cases hR
   exact .inl ⟨rfl,rfl,hz⟩
 refine enter ab Tryz.func88 rfl (by decide +kernel) rfl fun hok w0 σ0 φ0 M=>?_
 have hats : ats.length < 281474976710656:=by
  have:=(OkD.sl (hok.1 (.d (bT ats)) (by simp))).1; simpa using this
 clear hok
 repeat' (first|(refine h6H ?_; first|refine ac ?_|refine ah ab J J J J J ?_|(refine h4H ?_; refine ba 16 J J J J J J J J (DD _) J J J ?_)|(refine bC ?_; first|refine aM 0 J J J J J J ?_|refine aM 1 J J J J J J ?_)|(refine h5H ?_; first|refine ax ab 2 J J J J J ?_|refine ax ab 3 J J J J J ?_|refine ax ab 4 J J J J J ?_))|(refine h7H ?_; first|refine ox ?_|refine al ?_|refine ae ?_)|(show lI _ _ _; refine vR ?_)|refine ak ?_)
 ·have hC:=fun li fr hf hY=>DE (iF li fr [bZ ds,bT ats,cs] 2000000) (Im li fr _ hf) (F88 ds ats) nG hY s ([],false,0) h0
  rw [hR] at hC
  refine yQ (rW 4 5 (k:=1) (b:=8) rfl rfl) ?_
  refine oy (f:=216) (caps:=[.ptr (oT s)]) (rav:=.tup []) [0,2,3,4,5] 10 rfl rfl rfl rfl (uv q88 p88 (hC _ _ (fun a=>?_) (fun a x hok=>?_)) rfl rfl rfl rfl rfl rfl rfl) (by cases d' <;> rfl) (fun h=>?_) (fun h=>?_)
  ·rfl
  ·refine y88 ds ats a x hok rfl fun l h64 hargs hpx w0 σ0 φ0 M B=>?_
   clear hC hend hR hrun h0 hok a
   by_cases h1 : x.op = 1
   ·have e : F88 ds ats (l,false,0) x = (true,(l ++ [dQ x.val],false,0)):=by simp [F88,h1]
    have hb1 : (x.op == 1) = true:=by simp [h1]
    rw [e]
    repeat' (first|(refine h6H ?_; first|(refine h4H ?_; refine dY ab J J J J J J J J J J J J J (by show List.length l≤100000000; omega) (Nat.le_of_ble_eq_true J) (Nat.le_of_ble_eq_true J) ?_)|refine ac ?_|refine ah ab J J J J J ?_|(refine h4H ?_; refine ag J J J J J J J J (J6 _ _ _ _) J ?_)|(refine h5H ?_; refine ax ab 0 J J J J J ?_)|refine aI aa J J J ?_|refine cj aa 1 J J J J J J ?_)|(refine h7H ?_; first|refine al ?_|refine ae ?_|refine ay ?_|refine bv J (by assumption) ?_)|(show c6 _ _ _ _ _; refine fJ J ?_ ?_)|(show db _ _ _ _ _ _ _ _; refine eA J ?_)|refine ak ?_|refine aG ?_)
    ·rfl
    ·exact zW (by kernel_rfl) (by kernel_rfl) (by kernel_rfl) (by kernel_rfl) (by kernel_rfl) (by kernel_rfl)
   have hb1 : (x.op == 1) = false:=by simp [h1]
   by_cases h2 : x.op = 2
   ·have hb2 : (x.op == 2) = true:=by simp [h2]
    by_cases hi : atI ats x.name < 0
    ·have e : F88 ds ats (l,false,0) x = (false,(l,true,11)):=by simp [F88,h2,iA,hi]
     have hd : decide (bS (fun a : Attr=>a.name == x.name) ats 0 < 0) = true:=by simpa [atI] using hi
     rw [e]
     repeat' (first|(refine h6H ?_; first|refine ac ?_|refine ah ab J J J J J ?_|(refine h4H ?_; refine ag J J J J J J J J (Dq _ _ _ _) J ?_)|(refine h5H ?_; refine ax ab 0 J J J J J ?_)|refine aI aa J J J ?_)|(refine h7H ?_; first|refine al ?_|refine ae ?_|refine ay ?_|refine am ?_|refine bv J (by assumption) ?_|refine aZ J (by assumption) ?_)|(show c6 _ _ _ _ _; refine mD J J ?_ ?_)|(show db _ _ _ _ _ _ _ _; refine eA J ?_)|refine ak ?_|refine aC ?_|refine aP ?_)
     ·rfl
     ·exact af (by kernel_rfl) (af (by kernel_rfl) (af (by kernel_rfl) (af (by kernel_rfl) (af (by kernel_rfl) (af (by kernel_rfl) ap)))))
    ·have e : F88 ds ats (l,false,0) x = (true,(l ++ [(at_ ats (atI ats x.name).toNat).type],false,0)):=by simp [F88,h2,iA,hi]
     have hd : decide (bS (fun a : Attr=>a.name == x.name) ats 0 < 0) = false:=by simpa [atI] using hi
     have hr:=fx (p:=fun a : Attr=>a.name == x.name) (l:=ats) (k:=0) (by simpa [atI] using hi)
     obtain ⟨hr1,hr2⟩:=hr
     rw [e]
     repeat' (first|(refine h6H ?_; first|(refine h4H ?_; refine dY ab J J J J J J J J J J J J J (by show List.length l≤100000000; omega) (Nat.le_of_ble_eq_true J) (Nat.le_of_ble_eq_true J) ?_)|refine ac ?_|refine ah ab J J J J J ?_|(refine h3H ?_; refine s_e aa J J J (ar J J J J J (by omega) (aJ (by omega))) ?_)|(refine h4H ?_; refine ag J J J J J J J J (Dq _ _ _ _) J ?_)|(refine h5H ?_; refine ax ab 0 J J J J J ?_)|refine aI aa J J J ?_|refine cj aa 1 J J J J J J ?_)|(refine h7H ?_; first|refine al ?_|refine ae ?_|refine ay ?_|refine aw ?_|refine bv J (by assumption) ?_|refine aZ J (by assumption) ?_)|(show c6 _ _ _ _ _; refine fJ J ?_ ?_)|(show db _ _ _ _ _ _ _ _; refine eA J ?_)|refine ak ?_|refine aG ?_)
     ·rfl
     ·exact zW (by kernel_rfl) (by kernel_rfl) (by kernel_rfl) (by kernel_rfl) (by kernel_rfl) (by kernel_rfl)
   have hb2 : (x.op == 2) = false:=by simp [h2]
   by_cases h3 : x.op = 3
   ·have hb3 : (x.op == 3) = true:=by simp [h3]
    by_cases hi : kB ds x.name < 0
    ·have e : F88 ds ats (l,false,0) x = (false,(l,true,11)):=by simp [F88,h3,j7,hi]
     have hd : decide (bS (fun a : Dim=>a.name == x.name) ds 0 < 0) = true:=by simpa [kB] using hi
     rw [e]
     repeat' (first|(refine h6H ?_; first|refine ac ?_|refine ah ab J J J J J ?_|(refine h4H ?_; refine ag J J J J J J J J (Dp _ _ _ _) J ?_)|(refine h5H ?_; refine ax ab 0 J J J J J ?_)|refine aI aa J J J ?_)|(refine h7H ?_; first|refine al ?_|refine ae ?_|refine ay ?_|refine am ?_|refine bv J (by assumption) ?_|refine aZ J (by assumption) ?_)|(show c6 _ _ _ _ _; refine mD J J ?_ ?_)|(show db _ _ _ _ _ _ _ _; refine eA J ?_)|refine ak ?_|refine aC ?_|refine aP ?_)
     ·rfl
     ·exact af (by kernel_rfl) (af (by kernel_rfl) (af (by kernel_rfl) (af (by kernel_rfl) (af (by kernel_rfl) (af (by kernel_rfl) ap)))))
    ·have e : F88 ds ats (l,false,0) x = (true,(l ++ [2],false,0)):=by simp [F88,h3,j7,hi]
     have hd : decide (bS (fun a : Dim=>a.name == x.name) ds 0 < 0) = false:=by simpa [kB] using hi
     rw [e]
     repeat' (first|(refine h6H ?_; first|(refine h4H ?_; refine dY ab J J J J J J J J J J J J J (by show List.length l≤100000000; omega) (Nat.le_of_ble_eq_true J) (Nat.le_of_ble_eq_true J) ?_)|refine ac ?_|refine ah ab J J J J J ?_|(refine h4H ?_; refine ag J J J J J J J J (Dp _ _ _ _) J ?_)|(refine h5H ?_; refine ax ab 0 J J J J J ?_)|refine aI aa J J J ?_|refine cj aa 1 J J J J J J ?_)|(refine h7H ?_; first|refine al ?_|refine ae ?_|refine ay ?_|refine aw ?_|refine bv J (by assumption) ?_|refine aZ J (by assumption) ?_)|(show c6 _ _ _ _ _; refine fJ J ?_ ?_)|(show db _ _ _ _ _ _ _ _; refine eA J ?_)|refine ak ?_|refine aG ?_)
     ·rfl
     ·exact zW (by kernel_rfl) (by kernel_rfl) (by kernel_rfl) (by kernel_rfl) (by kernel_rfl) (by kernel_rfl)
   have hb3 : (x.op == 3) = false:=by simp [h3]
   obtain ⟨hop,hlen⟩:=iW hpx h1 h2 h3
   have hal:=hargs hop.1
   obtain ⟨m,hm⟩ : ∃ m : Nat,l.length = m + x.args.length:=⟨l.length - x.args.length,by omega⟩
   have hml : l.length - x.args.length = m:=by omega
   have hsub : ((l.length : Int) - (x.args.length : Int)) = (m : Int):=by omega
   have hC:=J7 x.op (l.drop m) hop (by simp; omega)
   repeat' (first|(refine h6H ?_; first|refine ac ?_|refine ah ab J J J J J ?_|(refine fY ?_; refine s_e aa J J J (bW J J J J (aN (by first|omega|((try simp only [a0A,a1A,a2A,a3A,a4A,a5A,a6A,a7A,a8A,a9A,au,av] at *); omega)) (by first|omega|((try simp only [a0A,a1A,a2A,a3A,a4A,a5A,a6A,a7A,a8A,a9A,au,av] at *); omega)))) ?_)|(refine h5H ?_; refine ax ab 0 J J J J J ?_)|refine aI aa J J J ?_)|(refine h7H ?_; first|refine al ?_|refine ae ?_|refine ay ?_|refine aZ J (by assumption) ?_|refine aR progOk.mo ?_)|(refine bP ?_; refine d_e aa J J J (aK J J) ?_)|(show db _ _ _ _ _ _ _ _; refine eA J ?_)|refine ak ?_)
   simp only [List.length_map]
   rw [hsub]
   rcases Nat.eq_zero_or_pos m with h0 | h0
   ·have hC' : CallA Tryz.prog 175 [.one (.d (.int .i64 x.op)),.one (.d (.sl 1 8 ((l.map dA).take l.length)))] [] (ie (ch x.op (l.drop m))) []:=by
     have e1 : bI (l.drop m) = .sl 1 8 ((l.map dA).take l.length):=by rw [List.take_of_length_le (by simp)]; simp [bI,h0]
     rw [e1] at hC; exact hC
    refine d_e aa rfl rfl rfl (mR rfl rfl rfl (by rw [h0]; rfl) rfl rfl (by simp)) ?_
    refine pJ [2000000] rfl rfl rfl rfl rfl rfl rfl rfl rfl hC' rfl ?_
    ·by_cases hz : (ch x.op (l.drop m)).2 = 0
     ·have hbz : ((ch x.op (l.drop m)).2 != 0) = false:=by simp [hz]
      have e : F88 ds ats (l,false,0) x = (true,(l.take m ++ [(ch x.op (l.drop m)).1],false,0)):=by
       simp only [F88]; rw [if_neg h1,if_neg h2,if_neg h3,hml]; simp [hz]
      rw [e]
      repeat' (first|(refine h6H ?_; first|refine ac ?_|refine ah ab J J J J J ?_)|(refine h7H ?_; first|refine al ?_|refine ae ?_|refine aw ?_|refine aZ J (by assumption) ?_|refine aR progOk.mo ?_)|(refine bP ?_; first|refine bG (by kernel_rfl) ?_|refine d_e aa J J J (aK J J) ?_)|refine ak ?_)
      refine d_e aa rfl rfl rfl (eZ rfl rfl rfl rfl rfl rfl (by omega) (by show Int.toNat (m : Int)≤List.length l; omega) (by simp)) ?_
      repeat' (first|(refine h6H ?_; first|(refine h4H ?_; refine dY ab J J J J J J J J J J J J J (by show Int.toNat (m : Int)≤100000000; omega) (Nat.le_of_ble_eq_true J) (Nat.le_of_ble_eq_true J) ?_)|refine ac ?_|refine ah ab J J J J J ?_|refine aI aa J J J ?_|refine cj aa 1 J J J J J J ?_)|(refine h7H ?_; refine ae ?_)|(refine bP ?_; first|refine bG (by kernel_rfl) ?_|refine d_e aa J J J (aK J J) ?_|refine ca aa J J J ?_)|(show c6 _ _ _ _ _; refine fJ J ?_ ?_)|refine ak ?_|refine aG ?_)
      ·rfl
      ·exact wE (by omega) (by kernel_rfl) (by kernel_rfl) (by kernel_rfl) (by kernel_rfl) (by kernel_rfl) (by kernel_rfl)
     ·have hbz : ((ch x.op (l.drop m)).2 != 0) = true:=by simp [hz]
      have e : F88 ds ats (l,false,0) x = (false,(l,true,(ch x.op (l.drop m)).2)):=by
       simp only [F88]; rw [if_neg h1,if_neg h2,if_neg h3,hml]; simp [hz]
      rw [e]
      repeat' (first|(refine h6H ?_; first|refine ac ?_|refine ah ab J J J J J ?_|refine aI aa J J J ?_)|(refine h7H ?_; first|refine al ?_|refine ae ?_|refine am ?_|refine bv J (by assumption) ?_)|(refine bP ?_; first|refine bG (by kernel_rfl) ?_|refine d_e aa J J J (aK J J) ?_)|(show c6 _ _ _ _ _; refine mD J J ?_ ?_)|refine ak ?_|refine aC ?_|refine aP ?_)
      ·rfl
      ·exact af (by kernel_rfl) (af (by kernel_rfl) (af (by kernel_rfl) (af (by kernel_rfl) (af (by kernel_rfl) (af (by kernel_rfl) ap)))))
   ·have hC' : CallA Tryz.prog 175 [.one (.d (.int .i64 x.op)),.one (.d (.sl 1 8 (((l.map dA).drop m).take (l.length - m))))] [] (ie (ch x.op (l.drop m))) []:=by
     have e1 : bI (l.drop m) = .sl 1 8 (((l.map dA).drop m).take (l.length - m)):=by
      rw [List.take_of_length_le (by simp)]; simp [bI,List.map_drop]
     rw [e1] at hC; exact hC
    refine d_e aa rfl rfl rfl (ol rfl rfl rfl rfl rfl rfl (by omega) (by show Int.toNat (m : Int)≤List.length l; omega) (by simp)) ?_
    refine pJ [2000000] rfl rfl rfl rfl rfl rfl rfl rfl rfl hC' rfl ?_
    ·by_cases hz : (ch x.op (l.drop m)).2 = 0
     ·have hbz : ((ch x.op (l.drop m)).2 != 0) = false:=by simp [hz]
      have e : F88 ds ats (l,false,0) x = (true,(l.take m ++ [(ch x.op (l.drop m)).1],false,0)):=by
       simp only [F88]; rw [if_neg h1,if_neg h2,if_neg h3,hml]; simp [hz]
      rw [e]
      repeat' (first|(refine h6H ?_; first|refine ac ?_|refine ah ab J J J J J ?_)|(refine h7H ?_; first|refine al ?_|refine ae ?_|refine aw ?_|refine aZ J (by assumption) ?_|refine aR progOk.mo ?_)|(refine bP ?_; first|refine bG (by kernel_rfl) ?_|refine d_e aa J J J (aK J J) ?_)|refine ak ?_)
      refine d_e aa rfl rfl rfl (eZ rfl rfl rfl rfl rfl rfl (by omega) (by show Int.toNat (m : Int)≤List.length l; omega) (by simp)) ?_
      repeat' (first|(refine h6H ?_; first|(refine h4H ?_; refine dY ab J J J J J J J J J J J J J (by show Int.toNat (m : Int)≤100000000; omega) (Nat.le_of_ble_eq_true J) (Nat.le_of_ble_eq_true J) ?_)|refine ac ?_|refine ah ab J J J J J ?_|refine aI aa J J J ?_|refine cj aa 1 J J J J J J ?_)|(refine h7H ?_; refine ae ?_)|(refine bP ?_; first|refine bG (by kernel_rfl) ?_|refine d_e aa J J J (aK J J) ?_|refine ca aa J J J ?_)|(show c6 _ _ _ _ _; refine fJ J ?_ ?_)|refine ak ?_|refine aG ?_)
      ·rfl
      ·exact wE (by omega) (by kernel_rfl) (by kernel_rfl) (by kernel_rfl) (by kernel_rfl) (by kernel_rfl) (by kernel_rfl)
     ·have hbz : ((ch x.op (l.drop m)).2 != 0) = true:=by simp [hz]
      have e : F88 ds ats (l,false,0) x = (false,(l,true,(ch x.op (l.drop m)).2)):=by
       simp only [F88]; rw [if_neg h1,if_neg h2,if_neg h3,hml]; simp [hz]
      rw [e]
      repeat' (first|(refine h6H ?_; first|refine ac ?_|refine ah ab J J J J J ?_|refine aI aa J J J ?_)|(refine h7H ?_; first|refine al ?_|refine ae ?_|refine am ?_|refine bv J (by assumption) ?_)|(refine bP ?_; first|refine bG (by kernel_rfl) ?_|refine d_e aa J J J (aK J J) ?_)|(show c6 _ _ _ _ _; refine mD J J ?_ ?_)|refine ak ?_|refine aC ?_|refine aP ?_)
      ·rfl
      ·exact af (by kernel_rfl) (af (by kernel_rfl) (af (by kernel_rfl) (af (by kernel_rfl) (af (by kernel_rfl) (af (by kernel_rfl) ap)))))
  ·rcases hend with ⟨rfl,_⟩ | ⟨rfl,rfl,hz,rfl⟩
   ·exact nomatch h
   rintro ⟨w1,σ1,φ1,M1,n1,rd1,mk1⟩ ⟨hn,hrd,_⟩
   dsimp only at hn hrd
   subst hn hrd
   refine dI (wa (s':=[(2,.box [.d (.int .i64 0)]),(3,.box [.d (.int .i64 0)]),(4,.box [.own 16 1]),(16,.row 1 8 [[.int .i64 (cM dQ ds ats s).1]])]) (af (by kernel_rfl) (af (by kernel_rfl) (af (by kernel_rfl) (af (by kernel_rfl) ap))))) ?_
   repeat' (first|(refine h6H ?_; first|refine ac ?_|refine ah ab J J J J J ?_|refine aI aa J J J ?_|refine s_e aa J J J J ?_)|(refine h7H ?_; first|refine al ?_|refine ae ?_|refine am ?_)|(show ov _ _ _; refine vS ?_)|refine ak ?_|refine ai (.inl J) J J ?_)
   simp [ie,hz]
  ·rcases hend with ⟨rfl,rfl,hz⟩ | ⟨rfl,_⟩
   ·repeat' (first|refine ai (.inl J) J J ?_)
    show AV.tup [(false,[.d (.int .i64 0)]),(false,[.d (.int .i64 (cM dQ ds ats s).2)])] = _
    simp [ie,Ds hz]
   ·exact nomatch h
end Go.Proofs.YtpejdgkaapnekaaGreat
namespace Go.Proofs.YtpejdgkaapnekaaGreat
open Go Go.Abs
attribute [local irreducible] ao OkC aU bg aV bA
set_option maxRecDepth 10000
end Go.Proofs.YtpejdgkaapnekaaGreat
namespace Go.Abs
open Go Go.Shelf Go.RowKit Go.Lib Go.Sort Go.Proofs
variable {P : Program} {σ : Sig} {φ : Pl} {w : World}
theorem mA{σ : Sig}{φ : Pl}{sto : Sto} : ∀ {ds : List D} {vs : List Value},All2 (Rep σ) ds vs→All2 (RepC σ φ sto) (ds.map AC.d) vs
 | [],[],_=>trivial
 | _::_,_::_,h=>⟨.d h.1,mA h.2⟩
 | [],_::_,h=>h.elim
 | _::_,[],h=>h.elim
section
variable {C : Type}
abbrev El(σ : Sig)(k : Nat)(encC : C→List D):={ p : C×List Value // p.2.length = k∧All2 (Rep σ) (encC p.1) p.2 }
end
end Go.Abs
namespace Go.Proofs.YtpejdgkaapnekaaGreat
open Go Go.Proofs Go.Shelf
end Go.Proofs.YtpejdgkaapnekaaGreat
namespace Go.Proofs.YtpejdgkaapnekaaGreat
open Go Go.Abs
attribute [local irreducible] ao OkC aU bg aV bA
set_option maxRecDepth 10000
end Go.Proofs.YtpejdgkaapnekaaGreat
namespace Go.Proofs.YtpejdgkaapnekaaGreat
open Go Go.Abs
attribute [local irreducible] ao OkC aU bg aV bA
set_option maxRecDepth 10000
theorem CK{α β : Type}[Inhabited α](f : α→β)(l : List α){k : Nat}(h : k < l.length) : ((l.take k).map f).take k ++ [f (at_ l k)] = (l.take (k + 1)).map f:=by
 rw [List.take_succ_eq_append_getElem h,List.map_append,List.take_of_length_le (by simp; omega)]
 simp [at_,h]
end Go.Proofs.YtpejdgkaapnekaaGreat
namespace Go.Proofs.YtpejdgkaapnekaaGreat
open Go Go.Abs
attribute [local irreducible] ao OkC aU bg aV bA
set_option maxRecDepth 10000
def JY(v : Val) : AV:=.agg [.d (.int .i64 v.kind),.d (.int .i64 v.num),.d (.int .i64 v.den),.d (.str v.str)]
theorem JZ(n : Int) : CallA Tryz.prog 185 [.one (.d (.int .i64 n))] [] (JY ⟨2,n,1,[]⟩) []:=by
 refine enter ab Tryz.func185 rfl (by decide +kernel) rfl fun hok w0 σ0 φ0 M=>?_
 clear hok
 repeat' (first|(refine h6H ?_; first|refine ac ?_|refine ah ab J J J J J ?_|(refine h5H ?_; refine ax ab 0 J J J J J ?_)|refine aI aa J J J ?_)|(refine h7H ?_; first|refine al ?_|refine ae ?_|refine am ?_)|refine ak ?_|refine ai (.inl J) J J ?_)
 all_goals rfl
end Go.Proofs.YtpejdgkaapnekaaGreat
namespace Go.Proofs.YtpejdgkaapnekaaGreat
open Go Go.Abs
attribute [local irreducible] ao OkC aU bg aV bA OkR lI c6 db ov
set_option maxRecDepth 10000
def fj(li : LI)(fr : List (Nat×AV))(A C : List D)(r : Nat)(l : List Val) : Sto :=
 [(1000000,.loop li fr .ready none),(1000001,.box (A.map .d)),(1000002,.box (C.map .d)),(1000003,.box [.own r l.length]),(r,.row 4 40 (l.map aj))]
theorem HQ(li : LI)(fr : List (Nat×AV))(A C : List D)(hf : ∀ a,io (fj li fr A C 2000000 a) fr = true) : FamW (fj li fr A C 2000000):=by
 refine ⟨fun a i e h=>?_,fun a=>?_,fun a=>⟨li,fr,.ready,none,rfl⟩,fun a=>rfl⟩
 ·unfold fj at h
  rcases aB h with ⟨rfl,_⟩ | ⟨_,h⟩
  ·omega
  rcases aB h with ⟨rfl,_⟩ | ⟨_,h⟩
  ·omega
  rcases aB h with ⟨rfl,_⟩ | ⟨_,h⟩
  ·omega
  rcases aB h with ⟨rfl,_⟩ | ⟨_,h⟩
  ·omega
  rcases aB h with ⟨rfl,_⟩ | ⟨_,h⟩
  ·omega
  ·exact nomatch h
 ·show (io (fj li fr A C 2000000 a) fr && (eu (fj li fr A C 2000000 a) (A.map .d) && (eu (fj li fr A C 2000000 a) (C.map .d) && _))) = true
  rw [hf a,nO,nO]; rfl
theorem Mc{li : LI}{fr : List (Nat×AV)}{A C : List D}(ds : List Dim)(ats : List Attr)(at' : List Int)(vs : List Val)(a : List Val)(x : Scalar)
  (hps : (iv li.n li.params.toList && Nat.beq li.params.toList.length 1) = true)
  (h : ∀ (w0 : World) (σ0 : Sig) (φ0 : Pl) (M : Nat→Prop) (B : Nat),OkC Tryz.prog ⟨w0,σ0,φ0,M,li.n,some B,[]⟩ li.assign ⟨fK li.params.toList [du x] fr,fj li fr A C 2000000 a⟩
   (db Tryz.prog 1000000 ⟨w0,σ0,φ0,M,li.n,some B,[]⟩ li.body (.one (.d (.bool (eT ds ats at' vs a x).1))) (fj li fr A C 2000000 (eT ds ats at' vs a x).2))) :
  YieldA Tryz.prog 1000000 [du x] (fj li fr A C 2000000 a) (.one (.d (.bool (eT ds ats at' vs a x).1))) (fj li fr A C 2000000 (eT ds ats at' vs a x).2) :=
 oB ⟨by omega,by omega⟩ rfl hps h
def Md(i : Nat) : Nat:=bif Nat.beq i 2000000 then 5 else i
def Me(i : Nat) : Nat:=bif Nat.beq i 1000004 then 2000000 else i
theorem tV{sto : Sto}{li : LI}{fr : List (Nat×AV)}{A C : List D}{l : List Val}{v : Val}{m : Nat}(hm : m≤l.length)(h1 : Abs.look sto 1000000 = some (.loop li fr .ready none))(h2 : Abs.look sto 1000001 = some (.box (A.map .d)))(h3 : Abs.look sto 1000002 = some (.box (C.map .d)))
  (h5 : Abs.look sto 1000003 = some (.box [.own 2000000 (m + 1)])) (h6 : Abs.look sto 2000000 = some (.row 4 40 ((l.map aj).take m ++ [aj v]))) : SubL sto (fj li fr A C 2000000 (l.take m ++ [v])):=by
 refine ⟨h1,h2,h3,?_,?_,trivial⟩
 ·rw [h5]; simp [Nat.min_eq_left hm]
 ·rw [h6]; simp [List.map_take]
theorem A6{sto : Sto}{li : LI}{fr : List (Nat×AV)}{A C : List D}{l : List Val}{v : Val}(h1 : Abs.look sto 1000000 = some (.loop li fr .ready none))(h2 : Abs.look sto 1000001 = some (.box (A.map .d)))(h3 : Abs.look sto 1000002 = some (.box (C.map .d)))
  (h5 : Abs.look sto 1000003 = some (.box [.own 2000000 (l.length + 1)])) (h6 : Abs.look sto 2000000 = some (.row 4 40 ((l.map aj).take l.length ++ [aj v]))) : SubL sto (fj li fr A C 2000000 (l ++ [v])):=by
 have:=tV (Nat.le_refl _) h1 h2 h3 h5 h6
 rwa [List.take_length] at this
set_option maxHeartbeats 4000000 in
theorem Ku(ds : List Dim)(ats : List Attr)(cs : D)(s : Scalar)(at' : List Int)(vs : List Val)(hp : dq s = true)(hsz : (bB s).length≤64)(hn : ∀ z∈bB s,oS ds ats z)(hat : at'.length = ds.length)(hvs : vs.length = ats.length) :
  CallA Tryz.prog 102 [.agg [.d (bZ ds),.d (bT ats),.d cs],du s,.agg [.d (bI at'),.d (bf vs)]] [] (bD (js ds ats at' vs s)) []:=by
 obtain ⟨h0,hR⟩:=IA (ds:=ds) (ats:=ats) (at':=at') (vs:=vs) s hp hn [] (by simp; omega)
 refine enter ab Tryz.func102 rfl (by decide +kernel) rfl fun hok w0 σ0 φ0 M=>?_
 clear hok
 repeat' (first|(refine h6H ?_; first|refine ac ?_|refine ah ab J J J J J ?_|(refine h4H ?_; refine ba 16 J J J J J J J J (DD _) J J J ?_)|(refine bC ?_; first|refine aM 0 J J J J J J ?_|refine aM 1 J J J J J J ?_|refine aM 2 J J J J J J ?_)|(refine h5H ?_; first|refine ax ab 3 J J J J J ?_|refine ax ab 4 J J J J J ?_))|(refine h7H ?_; first|refine ox ?_|refine al ?_|refine ae ?_)|(show lI _ _ _; refine vR ?_)|refine ak ?_)
 have hC:=fun li fr hf hY=>DE (fj li fr [bZ ds,bT ats,cs] [bI at',bf vs] 2000000) (HQ li fr _ _ hf) (eT ds ats at' vs) (sk ds ats) hY s [] h0
 rw [hR] at hC
 refine yQ (rW 4 5 (k:=4) (b:=40) rfl rfl) ?_
 refine oy (f:=216) (caps:=[.ptr (oT s)]) (rav:=.tup []) [0,2,4,5] 10 rfl rfl rfl rfl (uv Me Md (hC _ _ (fun a=>?_) (fun a x hok=>?_)) rfl rfl rfl rfl rfl rfl rfl) rfl (fun h=>?_) (fun h=>?_)
 ·rfl
 ·obtain ⟨hnm,hpx,h64,hargs⟩:=hok
  refine Mc ds ats at' vs a x rfl fun w0 σ0 φ0 M B=>?_
  clear hC hR h0
  by_cases h1 : x.op = 1
  ·have e : eT ds ats at' vs a x = (true,a ++ [x.val]):=by simp [eT,h1]
   have hb1 : (x.op == 1) = true:=by simp [h1]
   rw [e]
   repeat' (first|(refine h6H ?_; first|(refine h4H ?_; refine dY ab J J J J J J J J J J J J J (by show List.length a≤100000000; omega) (Nat.le_of_ble_eq_true J) (Nat.le_of_ble_eq_true J) ?_)|refine ac ?_|refine ah ab J J J J J ?_|(refine h5H ?_; first|refine ax ab 0 J J J J J ?_|refine ax ab 1 J J J J J ?_)|refine aI aa J J J ?_|refine cj aa 2 J J J J J J ?_)|(refine h7H ?_; first|refine al ?_|refine ae ?_|refine ay ?_|refine aw ?_|refine bv J (by assumption) ?_)|(show c6 _ _ _ _ _; refine fJ J ?_ ?_)|(show db _ _ _ _ _ _ _ _; refine eA J ?_)|refine ak ?_|refine aG ?_)
   ·rfl
   ·exact A6 (by kernel_rfl) (by kernel_rfl) (by kernel_rfl) (by kernel_rfl) (by kernel_rfl)
  have hb1 : (x.op == 1) = false:=by simp [h1]
  by_cases h2 : x.op = 2
  ·have hb2 : (x.op == 2) = true:=by simp [h2]
   have e : eT ds ats at' vs a x = (true,a ++ [at_ vs (atI ats x.name).toNat]):=by simp [eT,h2]
   have hr0:=hnm.1 h2
   obtain ⟨hr1,hr2⟩:=fx (p:=fun a : Attr=>a.name == x.name) (l:=ats) (k:=0) hr0
   rw [e]
   repeat' (first|(refine h6H ?_; first|(refine h4H ?_; refine dY ab J J J J J J J J J J J J J (by show List.length a≤100000000; omega) (Nat.le_of_ble_eq_true J) (Nat.le_of_ble_eq_true J) ?_)|refine ac ?_|refine ah ab J J J J J ?_|(refine h5H ?_; first|refine ax ab 0 J J J J J ?_|refine ax ab 1 J J J J J ?_)|refine aI aa J J J ?_|refine cj aa 2 J J J J J J ?_)|(refine h7H ?_; first|refine al ?_|refine ae ?_|refine ay ?_|refine bv J (by assumption) ?_|refine aZ J (by assumption) ?_|refine aR progOk.mo ?_)|(refine bP ?_; first|refine bG (by kernel_rfl) ?_|refine d_e aa J J J (aK J J) ?_|(refine h8H ?_; refine d_e aa J J J (ar J J J J J (by omega) (aJ (by omega))) ?_)|(refine h9H ?_; refine d_l J J (bj J J J J J J (Dq _ _ _ _) J) ?_)|refine ca aa J J J ?_)|(show c6 _ _ _ _ _; refine fJ J ?_ ?_)|(show db _ _ _ _ _ _ _ _; refine eA J ?_)|refine ak ?_|refine aG ?_)
   ·rfl
   ·exact A6 (by kernel_rfl) (by kernel_rfl) (by kernel_rfl) (by kernel_rfl) (by kernel_rfl)
  have hb2 : (x.op == 2) = false:=by simp [h2]
  by_cases h3 : x.op = 3
  ·have hb3 : (x.op == 3) = true:=by simp [h3]
   have e : eT ds ats at' vs a x = (true,a ++ [⟨2,at_ at' (kB ds x.name).toNat,1,[]⟩]):=by simp [eT,h3]
   have hr0:=hnm.2 h3
   obtain ⟨hr1,hr2⟩:=fx (p:=fun a : Dim=>a.name == x.name) (l:=ds) (k:=0) hr0
   rw [e]
   repeat' (first|(refine h6H ?_; first|(refine h4H ?_; refine dY ab J J J J J J J J J J J J J (by show List.length a≤100000000; omega) (Nat.le_of_ble_eq_true J) (Nat.le_of_ble_eq_true J) ?_)|refine ac ?_|refine ah ab J J J J J ?_|(refine h5H ?_; first|refine ax ab 0 J J J J J ?_|refine ax ab 1 J J J J J ?_)|refine aI aa J J J ?_|refine cj aa 2 J J J J J J ?_)|(refine h7H ?_; first|refine al ?_|refine ae ?_|refine ay ?_|refine bv J (by assumption) ?_|refine aZ J (by assumption) ?_|refine aR progOk.mo ?_)|(refine bP ?_; first|refine bG (by kernel_rfl) ?_|refine d_e aa J J J (aK J J) ?_|(refine h8H ?_; refine d_e aa J J J (ar J J J J J (by omega) (aJ (by omega))) ?_)|(refine h9H ?_; first|refine d_l J J (bj J J J J J J (Dp _ _ _ _) J) ?_|refine d_l J J (bj J J J J J J (JZ _) J) ?_)|refine ca aa J J J ?_)|(show c6 _ _ _ _ _; refine fJ J ?_ ?_)|(show db _ _ _ _ _ _ _ _; refine eA J ?_)|refine ak ?_|refine aG ?_)
   ·rfl
   ·exact A6 (by kernel_rfl) (by kernel_rfl) (by kernel_rfl) (by kernel_rfl) (by kernel_rfl)
  have hb3 : (x.op == 3) = false:=by simp [h3]
  obtain ⟨hop,hlen⟩:=iW hpx h1 h2 h3
  have hal:=hargs hop.1
  obtain ⟨m,hm⟩ : ∃ m : Nat,a.length = m + x.args.length:=⟨a.length - x.args.length,by omega⟩
  have hml : a.length - x.args.length = m:=by omega
  have hsub : ((a.length : Int) - (x.args.length : Int)) = (m : Int):=by omega
  have hC:=LW x.op (a.drop m) hop (by simp; omega)
  have e : eT ds ats at' vs a x = (true,a.take m ++ [(doF x.op (a.drop m)).1]):=by
   simp only [eT]; rw [if_neg h1,if_neg h2,if_neg h3,hml]
  rw [e]
  repeat' (first|(refine h6H ?_; first|refine ac ?_|refine ah ab J J J J J ?_|(refine fY ?_; refine s_e aa J J J (bW J J J J (aN (by first|omega|((try simp only [a0A,a1A,a2A,a3A,a4A,a5A,a6A,a7A,a8A,a9A,au,av] at *); omega)) (by first|omega|((try simp only [a0A,a1A,a2A,a3A,a4A,a5A,a6A,a7A,a8A,a9A,au,av] at *); omega)))) ?_)|(refine h5H ?_; first|refine ax ab 0 J J J J J ?_|refine ax ab 1 J J J J J ?_)|refine aI aa J J J ?_)|(refine h7H ?_; first|refine al ?_|refine ae ?_|refine ay ?_|refine aZ J (by assumption) ?_|refine aR progOk.mo ?_)|(refine bP ?_; refine d_e aa J J J (aK J J) ?_)|(show db _ _ _ _ _ _ _ _; refine eA J ?_)|refine ak ?_)
  simp only [List.length_map]
  rw [hsub]
  rcases Nat.eq_zero_or_pos m with h0 | h0
  ·have hC' : CallA Tryz.prog 186 [.one (.d (.int .i64 x.op)),.one (.d (.sl 4 40 ((a.map aj).take a.length)))] [] (cV (doF x.op (a.drop m))) []:=by
    have e1 : bf (a.drop m) = .sl 4 40 ((a.map aj).take a.length):=by rw [List.take_of_length_le (by simp)]; simp [bf,h0]
    rw [e1] at hC; exact hC
   refine d_e aa rfl rfl rfl (mR rfl rfl rfl (by rw [h0]; rfl) rfl rfl (by simp)) ?_
   refine pJ [2000000] rfl rfl rfl rfl rfl rfl rfl rfl rfl hC' rfl ?_
   repeat' (first|(refine h6H ?_; refine ah ab J J J J J ?_)|(refine h7H ?_; refine ae ?_)|(refine bP ?_; first|refine bG (by kernel_rfl) ?_|refine d_e aa J J J (aK J J) ?_|refine ca aa J J J ?_)|refine ak ?_)
   refine s_e aa rfl rfl rfl (eZ rfl rfl rfl rfl rfl rfl (by omega) (by show Int.toNat (m : Int)≤List.length a; omega) (by simp)) ?_
   repeat' (first|(refine h6H ?_; first|(refine h4H ?_; refine dY ab J J J J J J J J J J J J J (by show Int.toNat (m : Int)≤100000000; omega) (Nat.le_of_ble_eq_true J) (Nat.le_of_ble_eq_true J) ?_)|refine ac ?_|refine ah ab J J J J J ?_|refine aI aa J J J ?_|refine cj aa 2 J J J J J J ?_)|(refine h7H ?_; refine ae ?_)|(show c6 _ _ _ _ _; refine fJ J ?_ ?_)|refine ak ?_|refine aG ?_)
   ·rfl
   ·exact tV (by omega) (by kernel_rfl) (by kernel_rfl) (by kernel_rfl) (by kernel_rfl) (by kernel_rfl)
  ·have hC' : CallA Tryz.prog 186 [.one (.d (.int .i64 x.op)),.one (.d (.sl 4 40 (((a.map aj).drop m).take (a.length - m))))] [] (cV (doF x.op (a.drop m))) []:=by
    have e1 : bf (a.drop m) = .sl 4 40 (((a.map aj).drop m).take (a.length - m)):=by
     rw [List.take_of_length_le (by simp)]; simp [bf,List.map_drop]
    rw [e1] at hC; exact hC
   refine d_e aa rfl rfl rfl (ol rfl rfl rfl rfl rfl rfl (by omega) (by show Int.toNat (m : Int)≤List.length a; omega) (by simp)) ?_
   refine pJ [2000000] rfl rfl rfl rfl rfl rfl rfl rfl rfl hC' rfl ?_
   repeat' (first|(refine h6H ?_; refine ah ab J J J J J ?_)|(refine h7H ?_; refine ae ?_)|(refine bP ?_; first|refine bG (by kernel_rfl) ?_|refine d_e aa J J J (aK J J) ?_|refine ca aa J J J ?_)|refine ak ?_)
   refine s_e aa rfl rfl rfl (eZ rfl rfl rfl rfl rfl rfl (by omega) (by show Int.toNat (m : Int)≤List.length a; omega) (by simp)) ?_
   repeat' (first|(refine h6H ?_; first|(refine h4H ?_; refine dY ab J J J J J J J J J J J J J (by show Int.toNat (m : Int)≤100000000; omega) (Nat.le_of_ble_eq_true J) (Nat.le_of_ble_eq_true J) ?_)|refine ac ?_|refine ah ab J J J J J ?_|refine aI aa J J J ?_|refine cj aa 2 J J J J J J ?_)|(refine h7H ?_; refine ae ?_)|(show c6 _ _ _ _ _; refine fJ J ?_ ?_)|refine ak ?_|refine aG ?_)
   ·rfl
   ·exact tV (by omega) (by kernel_rfl) (by kernel_rfl) (by kernel_rfl) (by kernel_rfl) (by kernel_rfl)
 ·rintro ⟨w1,σ1,φ1,M1,n1,rd1,mk1⟩ ⟨hn1,hrd,_⟩
  dsimp only at hn1 hrd
  subst hn1 hrd
  clear hC hR h0
  refine dI (sT (f':=[(6,.one (.ref 3 0)),(7,.one (.ref 4 0))]) (s':=[(3,.box [.d (.int .i64 0),.d (.int .i64 0),.d (.int .i64 0),.d (.str [])]),(4,.box [.own 16 1]),(16,.row 4 40 [aj (js ds ats at' vs s)])]) (af (by kernel_rfl) (af (by kernel_rfl) ap)) (af (by kernel_rfl) (af (by kernel_rfl) (af (by kernel_rfl) ap)))) ?_
  repeat' (first|(refine h6H ?_; first|(refine h3H ?_; refine s_e aa J J J (b4 J J J J J J (by omega) (by omega)) ?_)|(refine ot ?_; refine s_e aa J J J (cu J J J J J J) ?_)|refine ac ?_|refine ah ab J J J J J ?_|refine aI aa J J J ?_)|(refine h7H ?_; first|refine al ?_|refine ae ?_|refine am ?_)|(show ov _ _ _; refine vS ?_)|refine ak ?_|refine ai (.inl J) J J ?_)
  rfl
 ·exact absurd h (by simp [fj])
end Go.Proofs.YtpejdgkaapnekaaGreat
namespace Go.Proofs.YtpejdgkaapnekaaGreat
open Go Go.Abs
attribute [local irreducible] ao OkC aU bg aV bA
set_option maxRecDepth 10000
theorem r8 : ∀ {l : List Scalar} {x : Scalar},x∈l→(bB x).length≤(bt l).length
 | [],x,h=>by simp at h
 | y::r,x,h=>by
   simp only [bt,List.length_append]
   rcases List.mem_cons.1 h with rfl | h
   ·omega
   ·have:=r8 h; omega
def nW(l : List Int) : Sum Int (List Int)→Sum Int (List Int)
 | .inl e=>.inl e
 | .inr t=>.inr (l ++ t)
theorem DM{l m : List Int} : ∀ {x : Sum Int (List Int)},nW (l ++ m) x = nW l (nW m x)
 | .inl _=>rfl
 | .inr t=>by simp [nW]
def B6(o : Int) : Sum Int (List Int)→Int×Int
 | .inl e=>(0,e)
 | .inr l=>ch o l
theorem DN{cst : Val→Int}{ds : List Dim}{ats : List Attr}{s : Scalar} : cM cst ds ats s = if s.op = 1 then (cst s.val,0) else if s.op = 2 then iA ats s.name else if s.op = 3 then j7 ds s.name else B6 s.op (cB cst ds ats s.args):=by
 rw [jM]
 cases cB cst ds ats s.args <;> rfl
theorem LD{sto : Sto}{l : List Int}{t : Int}(h : Abs.look sto 5 = some (.row 1 8 ((l.map dA).take l.length ++ [[.int .i64 t]]))) : Abs.look sto 5 = some (.row 1 8 ((l ++ [t]).map dA)):=by
 rw [h,List.take_of_length_le (by simp)]; simp [dA]
theorem LE{fr : List (Nat×AV)}{l : List Int}{t : Int}(h : Abs.look fr 7 = some (.one (.own 5 (l.length + 1)))) : Abs.look fr 7 = some (.one (.own 5 (l ++ [t]).length)):=by
 rw [h]; simp
set_option maxHeartbeats 4000000 in
theorem c93(ds : List Dim)(ats : List Attr)(cs : D)(s : Scalar) : dq s = true→(bB s).length≤64→CallA Tryz.prog 93 [.agg [.d (bZ ds),.d (bT ats),.d cs],du s] [] (ie (cM gt ds ats s)) []:=by
 induction s using Scalar.ind with
 | h s ih =>
   intro hp hsz
   rw [fU,Bool.and_eq_true] at hp
   have hps:=f6 hp.2
   rw [dX,List.length_append,List.length_cons,List.length_nil] at hsz
   have hlen:=kK (r:=s.args)
   have hsz2 : ∀ x∈s.args,(bB x).length≤64:=fun x hx=>by have:=r8 hx; omega
   rw [DN]
   refine enter ab Tryz.func93 rfl (by decide +kernel) rfl fun hok w0 σ0 φ0 M=>?_
   have hats : ats.length < 281474976710656:=by
    have:=(OkD.sl (hok.1 (.d (bT ats)) (by simp))).1; simpa using this
   clear hok
   by_cases h1 : s.op = 1
   ·have hb1 : (s.op == 1) = true:=by simp [h1]
    rw [if_pos h1]
    repeat' (first|(refine h6H ?_; first|refine ac ?_|refine ah ab J J J J J ?_|(refine bC ?_; first|refine aM 0 J J J J J J ?_|refine aM 1 J J J J J J ?_))|(refine h7H ?_; first|refine al ?_|refine ae ?_|refine ay ?_|refine aw ?_|refine am ?_|refine bv J (by assumption) ?_|refine aA J (fun h=>?_) (fun h=>?_))|refine ak ?_|refine aC ?_|refine aG ?_|refine aP ?_|refine ai (.inl J) J J ?_)
    all_goals simp_all [gt,ie]
   have hb1 : (s.op == 1) = false:=by simp [h1]
   rw [if_neg h1]
   by_cases h2 : s.op = 2
   ·have hb2 : (s.op == 2) = true:=by simp [h2]
    rw [if_pos h2]
    by_cases hi : atI ats s.name < 0
    ·have hd : decide (bS (fun a : Attr=>a.name == s.name) ats 0 < 0) = true:=by simpa [atI] using hi
     repeat' (first|(refine h6H ?_; first|refine ac ?_|refine ah ab J J J J J ?_|(refine h4H ?_; refine ag J J J J J J J J (C9 _ _) J ?_)|(refine bC ?_; first|refine aM 0 J J J J J J ?_|refine aM 1 J J J J J J ?_))|(refine h7H ?_; first|refine al ?_|refine ae ?_|refine ay ?_|refine am ?_|refine bv J (by assumption) ?_|refine aZ J (by assumption) ?_)|refine ak ?_|refine aC ?_|refine aP ?_|refine ai (.inl J) J J ?_)
     simp [iA,hi,ie]
    ·have hd : decide (bS (fun a : Attr=>a.name == s.name) ats 0 < 0) = false:=by simpa [atI] using hi
     obtain ⟨hr1,hr2⟩:=fx (p:=fun a : Attr=>a.name == s.name) (l:=ats) (k:=0) (by simpa [atI] using hi)
     repeat' (first|(refine h6H ?_; first|refine ac ?_|refine ah ab J J J J J ?_|(refine h3H ?_; refine s_e aa J J J (ar J J J J J (by omega) (aJ (by omega))) ?_)|(refine h4H ?_; refine ag J J J J J J J J (C9 _ _) J ?_)|(refine bC ?_; first|refine aM 0 J J J J J J ?_|refine aM 1 J J J J J J ?_))|(refine h7H ?_; first|refine al ?_|refine ae ?_|refine ay ?_|refine aw ?_|refine am ?_|refine bv J (by assumption) ?_|refine aZ J (by assumption) ?_)|refine ak ?_|refine aC ?_|refine aP ?_|refine ai (.inl J) J J ?_)
     simp [iA,hi,ie]
     rfl
   have hb2 : (s.op == 2) = false:=by simp [h2]
   rw [if_neg h2]
   by_cases h3 : s.op = 3
   ·have hb3 : (s.op == 3) = true:=by simp [h3]
    rw [if_pos h3]
    by_cases hi : kB ds s.name < 0
    ·have hd : decide (bS (fun a : Dim=>a.name == s.name) ds 0 < 0) = true:=by simpa [kB] using hi
     repeat' (first|(refine h6H ?_; first|refine ac ?_|refine ah ab J J J J J ?_|(refine h4H ?_; refine ag J J J J J J J J (Dh _ _) J ?_)|(refine bC ?_; first|refine aM 0 J J J J J J ?_|refine aM 1 J J J J J J ?_))|(refine h7H ?_; first|refine al ?_|refine ae ?_|refine ay ?_|refine am ?_|refine bv J (by assumption) ?_|refine aZ J (by assumption) ?_)|refine ak ?_|refine aC ?_|refine aP ?_|refine ai (.inl J) J J ?_)
     simp [j7,hi,ie]
    ·have hd : decide (bS (fun a : Dim=>a.name == s.name) ds 0 < 0) = false:=by simpa [kB] using hi
     repeat' (first|(refine h6H ?_; first|refine ac ?_|refine ah ab J J J J J ?_|(refine h4H ?_; refine ag J J J J J J J J (Dh _ _) J ?_)|(refine bC ?_; first|refine aM 0 J J J J J J ?_|refine aM 1 J J J J J J ?_))|(refine h7H ?_; first|refine al ?_|refine ae ?_|refine ay ?_|refine aw ?_|refine am ?_|refine bv J (by assumption) ?_|refine aZ J (by assumption) ?_)|refine ak ?_|refine aC ?_|refine aP ?_|refine ai (.inl J) J J ?_)
     simp [j7,hi,ie]
   have hb3 : (s.op == 3) = false:=by simp [h3]
   rw [if_neg h3]
   obtain ⟨hop,hal⟩:=iW hp.1 h1 h2 h3
   clear hats
   repeat' (first|(refine h6H ?_; first|refine ac ?_|refine ah ab J J J J J ?_|(refine bC ?_; first|refine aM 0 J J J J J J ?_|refine aM 1 J J J J J J ?_))|(refine h7H ?_; first|refine al ?_|refine ae ?_|refine ay ?_|refine aw ?_|refine aZ J (by assumption) ?_)|refine ak ?_|refine aG ?_)
   refine dI (lF (s:=7) (id:=5) (k:=1) (b:=8) rfl rfl rfl rfl) ?_
   refine cR 21 rfl [(2,_),(3,_)] (q2Q rfl rfl) (fun (p : Nat×List Int)=>[(7,.one (.own 5 p.2.length)),(8,.one (.d (.int .i64 (p.1 : Int))))])
    (fun p=>[(0,.box [.d (bZ ds),.d (bT ats),.d cs]),(1,.box [.d (.int .i64 s.op),.d (.str s.name),.d (.int .i64 s.val.kind),.d (.int .i64 s.val.num),.d (.int .i64 s.val.den),.d (.str s.val.str),.d (dn s.args)]),(5,.row 1 8 (p.2.map dA))])
    (fun p=>p.1≤s.args.length∧p.2.length = p.1∧cB gt ds ats s.args = nW p.2 (cB gt ds ats (s.args.drop p.1))) (fun p=>s.args.length - p.1) (0,[])
    (q2Q rfl rfl) (q3Q rfl rfl rfl) ?_ (fun p ⟨hk,hl,hs⟩=>?_)
   ·refine ⟨Nat.zero_le _,rfl,?_⟩
    show _ = nW [] (cB gt ds ats (s.args.drop 0))
    simp only [List.drop_zero]
    cases cB gt ds ats s.args <;> rfl
   ·by_cases hk' : p.1 < s.args.length
    ·have hd : decide ((p.1 : Int) < ((s.args.map nX).length : Int)) = true:=by simpa using hk'
     repeat' (first|(refine h6H ?_; first|(refine h4H ?_; refine dY ab J J J J J J J J J J J J J (by show List.length p.2≤100000000; omega) (Nat.le_of_ble_eq_true J) (Nat.le_of_ble_eq_true J) ?_)|refine ac ?_|refine ah ab J J J J J ?_|(refine h1H ?_; refine s_e aa J J J (aL J J J J (aN (by omega) (by omega))) ?_)|refine cj aa 2 J J J J J J ?_)|(refine h7H ?_; first|refine al ?_|refine ae ?_|refine ay ?_|refine aw ?_|refine am ?_|refine bv J (by assumption) ?_|refine aA J (fun h=>?_) (fun h=>?_)|refine aR progOk.mo ?_)|(refine bP ?_; first|refine bG (by kernel_rfl) ?_|refine d_e aa J J J (aK J J) ?_|(refine h8H ?_; refine d_e aa J J J (ar J J J J J (by omega) (jQ (by omega))) ?_)|(refine h9H ?_; refine d_l J J (bj J J J J J J (ih (at_ s.args p.1) (ea (by omega)) (hps _ (ea (by omega))) (hsz2 _ (ea (by omega)))) J) ?_))|refine ak ?_|refine aC ?_|refine aG ?_|refine aP ?_|refine ai (.inl J) J J ?_)
     ·have hb : ¬ (cM gt ds ats (at_ s.args p.1)).2 = 0:=by simpa using h
      rw [hs,aO hk']
      simp [cB,hb,nW,B6,ie]
     have hb : (cM gt ds ats (at_ s.args p.1)).2 = 0:=by simpa using h
     refine ⟨(p.1 + 1,p.2 ++ [(cM gt ds ats (at_ s.args p.1)).1]),⟨by show p.1 + 1≤_; omega,by show (p.2 ++ [_]).length = _; simp [hl],?_⟩,by show s.args.length - (p.1 + 1) < s.args.length - p.1; omega,
      af rfl (af rfl ⟨LD (by kernel_rfl),trivial⟩),⟨LE (by kernel_rfl),af rfl ap⟩,af rfl (q1Q rfl)⟩
     show cB gt ds ats s.args = nW (p.2 ++ [_]) (cB gt ds ats (s.args.drop (p.1 + 1)))
     rw [hs,aO hk',DM]
     simp only [cB,hb,ne_eq,not_true_eq_false,if_false]
     cases cB gt ds ats (s.args.drop (p.1 + 1)) <;> rfl
    ·have hd : decide ((p.1 : Int) < ((s.args.map nX).length : Int)) = false:=by simpa using hk'
     replace hk' : p.1 = s.args.length:=by omega
     have hts : cB gt ds ats s.args = .inr p.2:=by
      rw [hs,hk',List.drop_length]; simp [cB,nW]
     have hC' : CallA Tryz.prog 178 [.one (.d (.int .i64 s.op)),.one (.d (.sl 1 8 ((p.2.map dA).take p.2.length)))] [] (ie (ch s.op p.2)) []:=by
      have:=Ks s.op p.2 hop (by omega)
      have e1 : bI p.2 = .sl 1 8 ((p.2.map dA).take p.2.length):=by rw [List.take_of_length_le (by simp)]; rfl
      rw [e1] at this; exact this
     rw [hts]
     repeat' (first|(refine h6H ?_; first|refine ac ?_|refine ah ab J J J J J ?_)|(refine h7H ?_; first|refine al ?_|refine ae ?_|refine aW ?_|refine aZ J (by assumption) ?_)|refine ak ?_|refine bd ?_|refine aX J ?_)
     refine DL [5] rfl rfl rfl rfl rfl rfl rfl rfl rfl hC' rfl ?_
     repeat' (first|(refine h6H ?_; first|refine ac ?_|refine ah ab J J J J J ?_)|(refine h7H ?_; refine am ?_)|refine ak ?_|refine ai (.inl J) J J ?_)
     all_goals rfl
end Go.Proofs.YtpejdgkaapnekaaGreat
namespace Go.Proofs.YtpejdgkaapnekaaGreat
open Go Go.Abs
attribute [local irreducible] ao OkC aU bg aV bA
set_option maxRecDepth 10000
theorem Ga(ds : List Dim)(ats : List Attr)(at' : List Int)(vs : List Val) : CallA Tryz.prog 131 [.one (.d (bZ ds)),.one (.d (bT ats)),.agg [.d (bI at'),.d (bf vs)]] [] (.one (.d (.int .i64 (dd ds ats at' vs)))) []:=by
 refine enter ab Tryz.func131 rfl (by decide +kernel) rfl fun hok w0 σ0 φ0 M=>?_
 have h1:=hok.1.sl.1; have h2:=hok.2.1.sl.1; have h3:=OkD.sl (hok.2.2.1 (.d (bI at')) (by simp)); have h4:=OkD.sl (hok.2.2.1 (.d (bf vs)) (by simp)); clear hok
 replace h3:=h3.1; replace h4:=h4.1; simp only [List.length_map] at h1 h2 h3 h4
 repeat' (first|(refine h6H ?_; first|refine ac ?_|refine ah ab J J J J J ?_|(refine h0H ?_; first|refine aT J J (by first|assumption|rfl) ?_|refine bH J J (by first|assumption|rfl) J J ?_|refine bn J J J J (fun h=>?_) (fun h=>?_))|(refine h1H ?_; refine s_e aa J J J (aL J J J J (aN (by omega) (by omega))) ?_)|(refine h2H ?_; first|refine s_e aa J J J (aF J J (by first|rfl|assumption) J) ?_|refine s_e aa J J J (az J J (by first|rfl|assumption) J) ?_)|(refine h4H ?_; refine ag J J J J J J J J (IZ _ _) J ?_)|(refine bC ?_; refine aM 0 J J J J J J ?_))|(refine h7H ?_; first|refine al ?_|refine ae ?_|refine ay ?_|refine aw ?_|refine am ?_|refine aW ?_|refine bc J ?_|refine aA J (fun h=>?_) (fun h=>?_)|refine aR progOk.mo ?_|refine bk 6 J [(1,_),(5,_)] (q2Q J J) (fun (k : Nat)=>[(7,.one (.d (.int .i64 k)))]) (fun (k : Nat)=>k≤ats.length∧at'.length = ds.length∧vs.length = ats.length∧ofF ds at' = true∧dd ds ats at' vs = mw (ats.drop k) (vs.drop k)) (fun (k : Nat)=>ats.length - k) 0 (q1Q J) ?_ (fun k ⟨hk,hq,hq2,hof,hs⟩=>?_))|(refine bP ?_; first|refine bG (by kernel_rfl) ?_|refine d_e aa J J J (aK J J) ?_|(refine h8H ?_; refine d_e aa J J J (ar J J J J J (by first|omega|((try simp only [a0A,a1A,a2A,a3A,a4A,a5A,a6A,a7A,a8A,a9A,au,av] at *); omega)) (aJ (by first|omega|((try simp only [a0A,a1A,a2A,a3A,a4A,a5A,a6A,a7A,a8A,a9A,au,av] at *); omega)))) ?_)|(refine h9H ?_; refine d_l J J (bj J J J J J J (I0 _ _ _ _ _) J) ?_))|(show Exists _; refine Exists.intro (k + 1) ⟨?_,?_,(by (repeat' first|exact ap|refine af J ?_); done),(q1Q J),(q2Q J J)⟩)|refine ak ?_|refine aC ?_|refine bd ?_|refine aG ?_|refine aP ?_|refine aX J ?_|refine ai (.inl J) J J ?_)
 all_goals (try (((simp_all [dd,mw,aO,List.drop_eq_nil_of_le]) <;> first | omega | (rw [Bool.eq_iff_iff]; simp; omega) | grind); done))
end Go.Proofs.YtpejdgkaapnekaaGreat
namespace Go.Proofs.YtpejdgkaapnekaaGreat
open Go Go.Abs
attribute [local irreducible] ao OkC aU bg aV bA
set_option maxRecDepth 10000
theorem c89(ds : List Dim)(ats : List Attr)(cs : List Cell) : CallA Tryz.prog 89 [.agg [.d (bZ ds),.d (bT ats),.d (fu cs)]] [] (.one (.d (.int .i64 (dz ds ats cs)))) []:=by
 refine enter ab Tryz.func89 rfl (by decide +kernel) rfl fun hok w0 σ0 φ0 M=>?_
 have h1:=(OkD.sl (hok.1 (.d (fu cs)) (by simp))).1; clear hok; simp only [List.length_map] at h1
 repeat' (first|(refine h6H ?_; first|refine ac ?_|refine ah ab J J J J J ?_|(refine h1H ?_; refine s_e aa J J J (aL J J J J (aN (by omega) (by omega))) ?_)|(refine h4H ?_; refine ag J J J J J J J J (J8 _ _) J ?_)|(refine bC ?_; refine aM 0 J J J J J J ?_))|(refine h7H ?_; first|refine al ?_|refine ae ?_|refine ay ?_|refine aw ?_|refine am ?_|refine aW ?_|refine aA J (fun h=>?_) (fun h=>?_)|refine aR progOk.mo ?_|refine bk 7 J [(1,_)] (q1Q J) (fun (k : Nat)=>[(4,.one (.d (.int .i64 k)))]) (fun (k : Nat)=>k≤cs.length∧d7 ds ats = 0∧(cs.length : Int)≤4096∧dz ds ats cs = d6 ds ats (pv cs k) (cs.drop k)) (fun (k : Nat)=>cs.length - k) 0 (q1Q J) ?_ (fun k ⟨hk,hsc,hq,hs⟩=>?_))|(refine bP ?_; first|refine bG (by kernel_rfl) ?_|refine d_e aa J J J (aK J J) ?_|(refine sP ?_; refine d_e aa J J J (bW J J J J (aN (by omega) (by omega))) ?_)|(refine h8H ?_; refine d_e aa J J J (ar J J J J J (by first|omega|((try simp only [a0A,a1A,a2A,a3A,a4A,a5A,a6A,a7A,a8A,a9A,au,av] at *); omega)) (aJ (by first|omega|((try simp only [a0A,a1A,a2A,a3A,a4A,a5A,a6A,a7A,a8A,a9A,au,av] at *); omega)))) ?_)|(refine h9H ?_; first|refine d_l J J (bj J J J J J J (Ga _ _ _ _) J) ?_|refine d_l J J (bj J J J J J J (Jz _ _) J) ?_))|(show Exists _; refine Exists.intro (k + 1) ⟨?_,?_,(by (repeat' first|exact ap|refine af J ?_); done),(q1Q J),(q1Q J)⟩)|refine ak ?_|refine aC ?_|refine bd ?_|refine aG ?_|refine aP ?_|refine aX J ?_|refine ai (.inl J) J J ?_)
 all_goals (try (((simp_all [dz,d6,pB,vL,pC,vM,aO,List.drop_eq_nil_of_le]) <;> first | omega | (rw [Bool.eq_iff_iff]; simp; omega) | grind); done))
 ·rename_i hlt
  have hk' : k < cs.length:=by simpa using hlt
  have hb : dd ds ats (at_ cs k).at' (at_ cs k).vals≠0:=by simpa using h
  rw [hs,aO hk',p7 hb]; simp
 ·rename_i hlt hc
  have hk' : k < cs.length:=by simpa using hlt
  have hk0 : k = 0:=by simpa using h
  have hb : dd ds ats (at_ cs k).at' (at_ cs k).vals = 0:=by simpa using hc
  refine ⟨by omega,hsc,hq,?_⟩
  rw [hs,aO hk',pC]
  subst hk0
  simp [d6,hb,pB]
end Go.Proofs.YtpejdgkaapnekaaGreat
