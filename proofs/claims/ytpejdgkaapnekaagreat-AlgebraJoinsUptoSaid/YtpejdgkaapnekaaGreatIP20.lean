import Derived.Test.YtpejdgkaapnekaaGreatIP19
set_option linter.unusedVariables false
set_option linter.unusedSimpArgs false
set_option maxHeartbeats 1000000
namespace Go.Proofs.YtpejdgkaapnekaaGreat
open Go Go.Abs
attribute [local irreducible] aa OkC ah av aq aP
set_option maxRecDepth 10000
theorem pb{a b:Arr}:fH a b=decide (0<(az a.dims b.dims).length):=by
 rw[HK,HX,eN]
 unfold fH
 rw[List.any_eq_true]
 constructor
 ·rintro ⟨d,hd,h⟩
  obtain⟨k,_,h2,h3⟩:=mK h
  exact List.length_pos_of_mem (com_mem.2 ⟨h2,inD_iff.2 (Hh.2 ⟨d,hd,h3.symm⟩)⟩)
 ·intro h
  have h1:=com_mem.1 (aW h)
  obtain⟨k,_,h2,h3⟩:=mK h1.2
  exact⟨_,aW h2,inD_iff.2 (Hh.2 ⟨_,aW h1.1,h3.symm⟩)⟩
theorem xd(a b:Arr) :
  ((!bj [a,b])=true∧eC a b=(none,2)) ∨
  ((!bj [a,b])=false∧((((az a.dims b.dims).map aH).length:Int)==0)=true∧b.dims.length≤1000∧eC a b=(none,13)) ∨
  ((!bj [a,b])=false∧((((az a.dims b.dims).map aH).length:Int)==0)=false∧b.dims.length≤1000∧(bz a b||bz b a)=true∧eC a b=(none,11)) ∨
  ((!bj [a,b])=false∧((((az a.dims b.dims).map aH).length:Int)==0)=false∧b.dims.length≤1000∧(bz a b||bz b a)=false∧OkA a.dims a.attrs a.cells∧OkA b.dims b.attrs b.cells∧eC a b=cu a b):=by
 by_cases hc:ba a≠0∨ba b≠0
 ·refine .inl ⟨?_,by unfold eC;rw[if_pos hc]⟩
  simp only[bj,List.all_cons,List.all_nil,Bool.and_true,Hd,Bool.and_eq_false_iff,beq_eq_false_iff_ne]
  exact hc
 have h1:ba a=0:=by omega
 have h2:ba b=0:=by omega
 have hv:(!bj [a,b])=false:=by simp[bj,h1,h2]
 have hb:=okA h2
 have hl:b.dims.length≤1000:=by have:=hb.dims.2.1;omega
 cases h3:fH a b
 ·refine .inr (.inl ⟨hv,?_,hl,by unfold eC;rw[if_neg hc,if_pos (by simp[h3])]⟩)
  rw[pb,HY] at h3
  rw[beq_iff_eq,G2];omega
 have hb1:((((az a.dims b.dims).map aH).length:Int)==0)=false:=by
  rw[pb,HX] at h3
  rw[beq_eq_false_iff_ne,G2];omega
 cases h4:(bz a b||bz b a)
 ·exact .inr (.inr (.inr ⟨hv,hb1,hl,rfl,okA h1,hb,by unfold eC;rw[if_neg hc,if_neg (by simp[h3]),if_neg (by simp[h4])]⟩))
 ·exact .inr (.inr (.inl ⟨hv,hb1,hl,rfl,by unfold eC;rw[if_neg hc,if_neg (by simp[h3]),if_pos h4]⟩))
theorem u7(a b:Arr) :
  ((!bj [a,b])=true∧fc a b=(none,2)) ∨
  ((!bj [a,b])=false∧decide (0<(((az a.dims b.dims).map aH).length:Int))=true∧b.dims.length≤1000∧fc a b=(none,11)) ∨
  ((!bj [a,b])=false∧decide (0<(((az a.dims b.dims).map aH).length:Int))=false∧b.dims.length≤1000∧(bz a b||bz b a)=true∧fc a b=(none,11)) ∨
  ((!bj [a,b])=false∧decide (0<(((az a.dims b.dims).map aH).length:Int))=false∧b.dims.length≤1000∧(bz a b||bz b a)=false∧OkA a.dims a.attrs a.cells∧OkA b.dims b.attrs b.cells∧fc a b=cu a b):=by
 by_cases hc:ba a≠0∨ba b≠0
 ·refine .inl ⟨?_,by unfold fc;rw[if_pos hc]⟩
  simp only[bj,List.all_cons,List.all_nil,Bool.and_true,Hd,Bool.and_eq_false_iff,beq_eq_false_iff_ne]
  exact hc
 have h1:ba a=0:=by omega
 have h2:ba b=0:=by omega
 have hv:(!bj [a,b])=false:=by simp[bj,h1,h2]
 have hb:=okA h2
 have hl:b.dims.length≤1000:=by have:=hb.dims.2.1;omega
 have he:decide (0<(((az a.dims b.dims).map aH).length:Int))=fH a b:=by
  rw[pb,HK,HX,HX,G2];omega
 rw[he]
 cases h3:fH a b
 ·cases h4:(bz a b||bz b a)
  ·exact .inr (.inr (.inr ⟨hv,rfl,hl,rfl,okA h1,hb,by unfold fc;rw[if_neg hc,if_neg (by rw[h3,h4];simp)]⟩))
  ·exact .inr (.inr (.inl ⟨hv,rfl,hl,rfl,by unfold fc;rw[if_neg hc,if_pos (by rw[h4];simp)]⟩))
 ·exact .inr (.inl ⟨hv,rfl,hl,by unfold fc;rw[if_neg hc,if_pos (by rw[h3];simp)]⟩)
theorem nQ(a b:Arr)(e:Bool)(h:(bz a b||bz b a)=e):CallA Tryz.prog 156 [bB a,bB b] [] (.one (.d (.bool e))) []:=by
 subst h;exact E6 a b
theorem Bm(a b:Arr)(ha:OkA a.dims a.attrs a.cells)(hb:OkA b.dims b.attrs b.cells)(o:Option Arr)(e:Int)(h:cu a b=(o,e)):CallA Tryz.prog 157 [bB a,bB b,jH a.dims b.dims] [] (gl (o,e)) []:=by
 rw[← h];exact Es a b ha hb
theorem Bn(a b:Arr)(ha:OkA a.dims a.attrs a.cells)(hb:OkA b.dims b.attrs b.cells)(e:Int)(h:cu a b=(none,e)):CallA Tryz.prog 157 [bB a,bB b,jH a.dims b.dims] [] (.tup [(true,[.d .nil,.d .nil,.d .nil]),(false,[.d (.int .i64 e)])]) []:=Bm a b ha hb none e h
theorem Bo(a b:Arr)(ha:OkA a.dims a.attrs a.cells)(hb:OkA b.dims b.attrs b.cells)(x:Arr)(e:Int)(h:cu a b=(some x,e)):CallA Tryz.prog 157 [bB a,bB b,jH a.dims b.dims] [] (.tup [(true,[.d (ar x.dims),.d (al x.attrs),.d (aG x.cells)]),(false,[.d (.int .i64 e)])]) []:=Bm a b ha hb (some x) e h
set_option maxHeartbeats 2000000 in
theorem c54(a b:Arr):CallA Tryz.prog 54 [bB a,bB b] [] (gl (eC a b)) []:=by
 unfold bB
 refine enter ag Tryz.func54 rfl (by decide +kernel) rfl fun hok w0 σ0 φ0 M=>?_
 clear hok
 rcases xd a b with⟨hv,e⟩|⟨hv,hb1,hl,e⟩|⟨hv,hb1,hl,hb2,e⟩|⟨hv,hb1,hl,hb2,ha,hb,e⟩
 all_goals rw[e]
 ·repeat' (first|(refine h1H ?_;(refine h0H ?_;refine cm [3] J J J J J J J J J (c96 [a,b]) J ?_))|refine wG ?_)
  all_goals rfl
 ·repeat' (first|(refine h1H ?_;(refine h0H ?_;first|refine cm [3] J J J J J J J J J (c96 [a,b]) J ?_|refine bF 16 J J J J J J J J (mP a b (by assumption)) J J J ?_))|refine wG ?_)
  all_goals rfl
 ·repeat' (first|(refine h1H ?_;(refine h0H ?_;first|refine cm [3] J J J J J J J J J (c96 [a,b]) J ?_|refine aj J J J J J J J J (nQ a b _ (by assumption)) J ?_|refine bF 16 J J J J J J J J (mP a b (by assumption)) J J J ?_))|refine wG ?_)
  all_goals rfl
 ·rcases hp:cu a b with⟨o,z⟩
  cases o with
  | none =>
    repeat' (first|(refine h1H ?_;(refine h0H ?_;first|refine cm [3] J J J J J J J J J (c96 [a,b]) J ?_|refine aj J J J J J J J J (nQ a b _ (by assumption)) J ?_|refine aj J J J J J J J J (Bn a b (by assumption) (by assumption) _ (by assumption)) J ?_|refine bF 16 J J J J J J J J (mP a b (by assumption)) J J J ?_))|refine wG ?_)
    all_goals rfl
  | some x =>
    repeat' (first|(refine h1H ?_;(refine h0H ?_;first|refine cm [3] J J J J J J J J J (c96 [a,b]) J ?_|refine aj J J J J J J J J (nQ a b _ (by assumption)) J ?_|refine bF 16 J J J J J J J J (mP a b (by assumption)) J J J ?_|refine bF 16 J J J J J J J J (Bo a b (by assumption) (by assumption) _ _ (by assumption)) J J J ?_))|refine wG ?_)
    all_goals rfl
set_option maxHeartbeats 2000000 in
theorem c56(a b:Arr):CallA Tryz.prog 56 [bB a,bB b] [] (gl (fc a b)) []:=by
 unfold bB
 refine enter ag Tryz.func56 rfl (by decide +kernel) rfl fun hok w0 σ0 φ0 M=>?_
 clear hok
 rcases u7 a b with⟨hv,e⟩|⟨hv,hb1,hl,e⟩|⟨hv,hb1,hl,hb2,e⟩|⟨hv,hb1,hl,hb2,ha,hb,e⟩
 all_goals rw[e]
 ·repeat' (first|(refine h1H ?_;(refine h0H ?_;refine cm [3] J J J J J J J J J (c96 [a,b]) J ?_))|refine wG ?_)
  all_goals rfl
 ·repeat' (first|(refine h1H ?_;(refine h0H ?_;first|refine cm [3] J J J J J J J J J (c96 [a,b]) J ?_|refine bF 16 J J J J J J J J (mP a b (by assumption)) J J J ?_))|refine wG ?_)
  all_goals rfl
 ·repeat' (first|(refine h1H ?_;(refine h0H ?_;first|refine cm [3] J J J J J J J J J (c96 [a,b]) J ?_|refine aj J J J J J J J J (nQ a b _ (by assumption)) J ?_|refine bF 16 J J J J J J J J (mP a b (by assumption)) J J J ?_))|refine wG ?_)
  all_goals rfl
 ·rcases hp:cu a b with⟨o,z⟩
  cases o with
  | none =>
    repeat' (first|(refine h1H ?_;(refine h0H ?_;first|refine cm [3] J J J J J J J J J (c96 [a,b]) J ?_|refine aj J J J J J J J J (nQ a b _ (by assumption)) J ?_|refine aj J J J J J J J J (Bn a b (by assumption) (by assumption) _ (by assumption)) J ?_|refine bF 16 J J J J J J J J (mP a b (by assumption)) J J J ?_))|refine wG ?_)
    all_goals rfl
  | some x =>
    repeat' (first|(refine h1H ?_;(refine h0H ?_;first|refine cm [3] J J J J J J J J J (c96 [a,b]) J ?_|refine aj J J J J J J J J (nQ a b _ (by assumption)) J ?_|refine bF 16 J J J J J J J J (mP a b (by assumption)) J J J ?_|refine bF 16 J J J J J J J J (Bo a b (by assumption) (by assumption) _ _ (by assumption)) J J J ?_))|refine wG ?_)
    all_goals rfl
end Go.Proofs.YtpejdgkaapnekaaGreat
