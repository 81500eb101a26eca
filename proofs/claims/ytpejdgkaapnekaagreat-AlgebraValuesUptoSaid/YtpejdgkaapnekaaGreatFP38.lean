import Derived.Test.YtpejdgkaapnekaaGreatFP37
import Derived.Test.YtpejdgkaapnekaaGreatFP26
import Derived.Test.YtpejdgkaapnekaaGreatFP35
import Derived.Test.YtpejdgkaapnekaaGreatFP17
import Derived.Test.YtpejdgkaapnekaaGreatFP16
import Derived.Test.YtpejdgkaapnekaaGreatFP20
set_option linter.unusedVariables false
set_option linter.unusedSimpArgs false
set_option linter.unnecessarySimpa false
set_option maxHeartbeats 1000000
namespace Go.Proofs.YtpejdgkaapnekaaGreat
open Go Go.Abs
attribute [local irreducible] ao OkC aU bg aV bA
set_option maxRecDepth 10000
set_option maxHeartbeats 2000000 in
theorem EN(l : List Val)(hl : l.length = 2) : CallA Tryz.prog 187 [.one (.d (.int .i64 13)),.one (.d (bf l))] [] (cV (doF 13 l)) []:=by
 have h228 : CallA Tryz.prog 228 [.one (.d (.int .i64 13))] [] (.one (.d (.int .i64 2))) []:=fC 13
 have hlen : (((l.map aj).length : Int) != 2) = false:=by rw [List.length_map,hl]; rfl
 have hkc:=fD 13 ⟨by omega,by omega⟩ l hl
 have hsc:=fE 13 ⟨by omega,by omega⟩ l hl
 have hx : l.all aH = true→kdF 13 l = true→bi l = none→aH (at_ l 0) = true∧aH (at_ l 1) = true:=fun hr _ _=>⟨dR hr (by omega),dR hr (by omega)⟩
 by_cases hz : (at_ l 0).kind = 2
 all_goals refine enter ab Tryz.func187 rfl (by decide +kernel) rfl fun hok w0 σ0 φ0 M=>?_
 all_goals clear hok
 repeat' (first|(refine h6H ?_; first|refine ac ?_|refine ah ab J J J J J ?_|(refine h0H ?_; refine aT J J (by first|assumption|rfl) ?_)|(refine h1H ?_; refine s_e aa J J J (aL J J J J (aN (by omega) (by omega))) ?_)|(refine h2H ?_; refine s_e aa J J J (az J J (by first|rfl|assumption) J) ?_)|(refine h3H ?_; first|refine s_e aa J J J (ar J J J J J (by omega) (aJ (by omega))) ?_|refine s_e aa J J J (ar J J J J J (by first|omega|((try simp only [a0A,a1A,a2A,a3A,a4A,a5A,a6A,a7A,a8A,a9A,au,av] at *); omega)) (aJ (by first|omega|((try simp only [a0A,a1A,a2A,a3A,a4A,a5A,a6A,a7A,a8A,a9A,au,av] at *); omega)))) ?_)|(refine h4H ?_; first|refine ag J J J J J J J J (h228) J ?_|refine ag J J J J J J J J (eD _) J ?_|refine ag J J J J J J J J (hkc) J ?_|refine ag J J J J J J J J (hsc) J ?_|refine ag J J J J J J J J (kF _ (hx (aD hq ‹decide ((k : Int) < ((l.map aj).length : Int)) = false›) (by simpa using ‹(!kdF 13 l) = false›) (aQ hq1 h)).1 hz) J ?_|refine ba 16 J J J J J J J J (eU _ (hx (aD hq ‹decide ((k : Int) < ((l.map aj).length : Int)) = false›) (by simpa using ‹(!kdF 13 l) = false›) (aQ hq1 h)).1 hz) J J J ?_)|(refine h5H ?_; first|refine ax ab 0 J J J J J ?_|refine ax ab 1 J J J J J ?_|refine ax ab 2 J J J J J ?_)|refine aI aa J J J ?_)|(refine h7H ?_; first|refine al ?_|refine ae ?_|refine ay ?_|refine aw ?_|refine am ?_|refine aW ?_|refine bc J ?_|refine bm J ?_|refine aZ J (by assumption) ?_|refine aA J (fun h=>?_) (fun h=>?_)|refine aR progOk.mo ?_|refine bk 4 J [(0,_),(1,_),(4,_)] (q3Q J J J) (fun (k : Nat)=>[(6,.one (.d (.int .i64 (k : Int))))]) (fun (k : Nat)=>k≤l.length∧l.all aH = (l.drop k).all aH) (fun (k : Nat)=>l.length - k) 0 (q1Q J) ?_ (fun k ⟨hk0,hq⟩=>?_)|refine bk 14 J [(0,_),(1,_),(4,_)] (q3Q J J J) (fun (j : Nat)=>[(9,.one (.d (.int .i64 (j : Int))))]) (fun (j : Nat)=>j≤l.length∧bi l = bi (l.drop j)) (fun (j : Nat)=>l.length - j) 0 (q1Q J) ?_ (fun j ⟨hk1,hq1⟩=>?_))|(refine bP ?_; first|refine bG (by kernel_rfl) ?_|refine d_e aa J J J (aK J J) ?_|(refine h8H ?_; refine d_e aa J J J (ar J J J J J (by omega) (aJ (by omega))) ?_)|(refine h9H ?_; first|refine d_l J J (bj J J J J J J (kx _) J) ?_|refine d_l J J (bj J J J J J J (sL (at_ l 0) (at_ l 1) (hx (aD hq ‹decide ((k : Int) < ((l.map aj).length : Int)) = false›) (by simpa using ‹(!kdF 13 l) = false›) (aQ hq1 h)).1 (hx (aD hq ‹decide ((k : Int) < ((l.map aj).length : Int)) = false›) (by simpa using ‹(!kdF 13 l) = false›) (aQ hq1 h)).2) J) ?_)|refine ca aa J J J ?_)|(show Exists _; first|refine Exists.intro (j + 1) ⟨?_,?_,(by first|(repeat' first|exact ap|refine af J ?_) <;> fail|fail),(q1Q J),(q3Q J J J)⟩|refine Exists.intro (k + 1) ⟨?_,?_,(by first|(repeat' first|exact ap|refine af J ?_) <;> fail|fail),(q1Q J),(q3Q J J J)⟩)|refine ak ?_|refine aC ?_|refine bd ?_|refine aG ?_|refine aP ?_|refine aX J ?_|refine ai (.inl J) J J ?_)
 all_goals first
  | exact ⟨Nat.zero_le _,rfl⟩
  | exact fV (ef hq (by simpa using ‹decide ((k : Int) < ((l.map aj).length : Int)) = true›) (by rw [← ne2]; exact h))
  | (have hlt : k < l.length:=by simpa using ‹decide ((k : Int) < ((l.map aj).length : Int)) = true›
     exact ⟨hlt,eg hq hlt (by rw [← ne2]; exact h)⟩)
  | (have hlt : k < l.length:=by simpa using ‹decide ((k : Int) < ((l.map aj).length : Int)) = true›
     show l.length - (k + 1) < l.length - k
     omega)
  | exact fW (aD hq ‹decide ((k : Int) < ((l.map aj).length : Int)) = false›) h
  | exact eP (rv:=aY (qC 13 (gD (at_ l 0) (at_ l 1)))) (aD hq ‹decide ((k : Int) < ((l.map aj).length : Int)) = false›) ‹(!kdF 13 l) = false› (.inr (aQ hq1 h)) rfl
  | exact iG (aD hq ‹decide ((k : Int) < ((l.map aj).length : Int)) = false›) ‹(!kdF 13 l) = false› rfl hq1 (by simpa using ‹decide ((j : Int) < ((l.map aj).length : Int)) = true›) h
  | (have hlt : j < l.length:=by simpa using ‹decide ((j : Int) < ((l.map aj).length : Int)) = true›
     exact ⟨hlt,hq1.trans (c0 hlt h)⟩)
  | (have hlt : j < l.length:=by simpa using ‹decide ((j : Int) < ((l.map aj).length : Int)) = true›
     show l.length - (j + 1) < l.length - j
     omega)
  | skip
set_option maxHeartbeats 2000000 in
theorem EO(l : List Val)(hl : l.length = 2) : CallA Tryz.prog 187 [.one (.d (.int .i64 14)),.one (.d (bf l))] [] (cV (doF 14 l)) []:=by
 have h228 : CallA Tryz.prog 228 [.one (.d (.int .i64 14))] [] (.one (.d (.int .i64 2))) []:=fC 14
 have hlen : (((l.map aj).length : Int) != 2) = false:=by rw [List.length_map,hl]; rfl
 have hkc:=fD 14 ⟨by omega,by omega⟩ l hl
 have hsc:=fE 14 ⟨by omega,by omega⟩ l hl
 have hx : l.all aH = true→kdF 14 l = true→bi l = none→aH (at_ l 0) = true∧aH (at_ l 1) = true:=fun hr _ _=>⟨dR hr (by omega),dR hr (by omega)⟩
 by_cases hz : (at_ l 0).kind = 2
 all_goals refine enter ab Tryz.func187 rfl (by decide +kernel) rfl fun hok w0 σ0 φ0 M=>?_
 all_goals clear hok
 repeat' (first|(refine h6H ?_; first|refine ac ?_|refine ah ab J J J J J ?_|(refine h0H ?_; refine aT J J (by first|assumption|rfl) ?_)|(refine h1H ?_; refine s_e aa J J J (aL J J J J (aN (by omega) (by omega))) ?_)|(refine h2H ?_; refine s_e aa J J J (az J J (by first|rfl|assumption) J) ?_)|(refine h3H ?_; first|refine s_e aa J J J (ar J J J J J (by omega) (aJ (by omega))) ?_|refine s_e aa J J J (ar J J J J J (by first|omega|((try simp only [a0A,a1A,a2A,a3A,a4A,a5A,a6A,a7A,a8A,a9A,au,av] at *); omega)) (aJ (by first|omega|((try simp only [a0A,a1A,a2A,a3A,a4A,a5A,a6A,a7A,a8A,a9A,au,av] at *); omega)))) ?_)|(refine h4H ?_; first|refine ag J J J J J J J J (h228) J ?_|refine ag J J J J J J J J (eD _) J ?_|refine ag J J J J J J J J (hkc) J ?_|refine ag J J J J J J J J (hsc) J ?_|refine ag J J J J J J J J (kF _ (hx (aD hq ‹decide ((k : Int) < ((l.map aj).length : Int)) = false›) (by simpa using ‹(!kdF 14 l) = false›) (aQ hq1 h)).1 hz) J ?_|refine ba 16 J J J J J J J J (eU _ (hx (aD hq ‹decide ((k : Int) < ((l.map aj).length : Int)) = false›) (by simpa using ‹(!kdF 14 l) = false›) (aQ hq1 h)).1 hz) J J J ?_)|(refine h5H ?_; first|refine ax ab 0 J J J J J ?_|refine ax ab 1 J J J J J ?_|refine ax ab 2 J J J J J ?_)|refine aI aa J J J ?_)|(refine h7H ?_; first|refine al ?_|refine ae ?_|refine ay ?_|refine aw ?_|refine am ?_|refine aW ?_|refine bc J ?_|refine bm J ?_|refine aZ J (by assumption) ?_|refine aA J (fun h=>?_) (fun h=>?_)|refine aR progOk.mo ?_|refine bk 4 J [(0,_),(1,_),(4,_)] (q3Q J J J) (fun (k : Nat)=>[(6,.one (.d (.int .i64 (k : Int))))]) (fun (k : Nat)=>k≤l.length∧l.all aH = (l.drop k).all aH) (fun (k : Nat)=>l.length - k) 0 (q1Q J) ?_ (fun k ⟨hk0,hq⟩=>?_)|refine bk 14 J [(0,_),(1,_),(4,_)] (q3Q J J J) (fun (j : Nat)=>[(9,.one (.d (.int .i64 (j : Int))))]) (fun (j : Nat)=>j≤l.length∧bi l = bi (l.drop j)) (fun (j : Nat)=>l.length - j) 0 (q1Q J) ?_ (fun j ⟨hk1,hq1⟩=>?_))|(refine bP ?_; first|refine bG (by kernel_rfl) ?_|refine d_e aa J J J (aK J J) ?_|(refine h8H ?_; refine d_e aa J J J (ar J J J J J (by omega) (aJ (by omega))) ?_)|(refine h9H ?_; first|refine d_l J J (bj J J J J J J (kx _) J) ?_|refine d_l J J (bj J J J J J J (sL (at_ l 0) (at_ l 1) (hx (aD hq ‹decide ((k : Int) < ((l.map aj).length : Int)) = false›) (by simpa using ‹(!kdF 14 l) = false›) (aQ hq1 h)).1 (hx (aD hq ‹decide ((k : Int) < ((l.map aj).length : Int)) = false›) (by simpa using ‹(!kdF 14 l) = false›) (aQ hq1 h)).2) J) ?_)|refine ca aa J J J ?_)|(show Exists _; first|refine Exists.intro (j + 1) ⟨?_,?_,(by first|(repeat' first|exact ap|refine af J ?_) <;> fail|fail),(q1Q J),(q3Q J J J)⟩|refine Exists.intro (k + 1) ⟨?_,?_,(by first|(repeat' first|exact ap|refine af J ?_) <;> fail|fail),(q1Q J),(q3Q J J J)⟩)|refine ak ?_|refine aC ?_|refine bd ?_|refine aG ?_|refine aP ?_|refine aX J ?_|refine ai (.inl J) J J ?_)
 all_goals first
  | exact ⟨Nat.zero_le _,rfl⟩
  | exact fV (ef hq (by simpa using ‹decide ((k : Int) < ((l.map aj).length : Int)) = true›) (by rw [← ne2]; exact h))
  | (have hlt : k < l.length:=by simpa using ‹decide ((k : Int) < ((l.map aj).length : Int)) = true›
     exact ⟨hlt,eg hq hlt (by rw [← ne2]; exact h)⟩)
  | (have hlt : k < l.length:=by simpa using ‹decide ((k : Int) < ((l.map aj).length : Int)) = true›
     show l.length - (k + 1) < l.length - k
     omega)
  | exact fW (aD hq ‹decide ((k : Int) < ((l.map aj).length : Int)) = false›) h
  | exact eP (rv:=aY (qC 14 (gD (at_ l 0) (at_ l 1)))) (aD hq ‹decide ((k : Int) < ((l.map aj).length : Int)) = false›) ‹(!kdF 14 l) = false› (.inr (aQ hq1 h)) rfl
  | exact iG (aD hq ‹decide ((k : Int) < ((l.map aj).length : Int)) = false›) ‹(!kdF 14 l) = false› rfl hq1 (by simpa using ‹decide ((j : Int) < ((l.map aj).length : Int)) = true›) h
  | (have hlt : j < l.length:=by simpa using ‹decide ((j : Int) < ((l.map aj).length : Int)) = true›
     exact ⟨hlt,hq1.trans (c0 hlt h)⟩)
  | (have hlt : j < l.length:=by simpa using ‹decide ((j : Int) < ((l.map aj).length : Int)) = true›
     show l.length - (j + 1) < l.length - j
     omega)
  | skip
set_option maxHeartbeats 2000000 in
theorem EP(l : List Val)(hl : l.length = 2) : CallA Tryz.prog 187 [.one (.d (.int .i64 15)),.one (.d (bf l))] [] (cV (doF 15 l)) []:=by
 have h228 : CallA Tryz.prog 228 [.one (.d (.int .i64 15))] [] (.one (.d (.int .i64 2))) []:=fC 15
 have hlen : (((l.map aj).length : Int) != 2) = false:=by rw [List.length_map,hl]; rfl
 have hkc:=fD 15 ⟨by omega,by omega⟩ l hl
 have hsc:=fE 15 ⟨by omega,by omega⟩ l hl
 have hx : l.all aH = true→kdF 15 l = true→bi l = none→aH (at_ l 0) = true∧aH (at_ l 1) = true:=fun hr _ _=>⟨dR hr (by omega),dR hr (by omega)⟩
 by_cases hz : (at_ l 0).kind = 2
 all_goals refine enter ab Tryz.func187 rfl (by decide +kernel) rfl fun hok w0 σ0 φ0 M=>?_
 all_goals clear hok
 repeat' (first|(refine h6H ?_; first|refine ac ?_|refine ah ab J J J J J ?_|(refine h0H ?_; refine aT J J (by first|assumption|rfl) ?_)|(refine h1H ?_; refine s_e aa J J J (aL J J J J (aN (by omega) (by omega))) ?_)|(refine h2H ?_; refine s_e aa J J J (az J J (by first|rfl|assumption) J) ?_)|(refine h3H ?_; first|refine s_e aa J J J (ar J J J J J (by omega) (aJ (by omega))) ?_|refine s_e aa J J J (ar J J J J J (by first|omega|((try simp only [a0A,a1A,a2A,a3A,a4A,a5A,a6A,a7A,a8A,a9A,au,av] at *); omega)) (aJ (by first|omega|((try simp only [a0A,a1A,a2A,a3A,a4A,a5A,a6A,a7A,a8A,a9A,au,av] at *); omega)))) ?_)|(refine h4H ?_; first|refine ag J J J J J J J J (h228) J ?_|refine ag J J J J J J J J (eD _) J ?_|refine ag J J J J J J J J (hkc) J ?_|refine ag J J J J J J J J (hsc) J ?_|refine ag J J J J J J J J (kF _ (hx (aD hq ‹decide ((k : Int) < ((l.map aj).length : Int)) = false›) (by simpa using ‹(!kdF 15 l) = false›) (aQ hq1 h)).1 hz) J ?_|refine ba 16 J J J J J J J J (eU _ (hx (aD hq ‹decide ((k : Int) < ((l.map aj).length : Int)) = false›) (by simpa using ‹(!kdF 15 l) = false›) (aQ hq1 h)).1 hz) J J J ?_)|(refine h5H ?_; first|refine ax ab 0 J J J J J ?_|refine ax ab 1 J J J J J ?_|refine ax ab 2 J J J J J ?_)|refine aI aa J J J ?_)|(refine h7H ?_; first|refine al ?_|refine ae ?_|refine ay ?_|refine aw ?_|refine am ?_|refine aW ?_|refine bc J ?_|refine bm J ?_|refine aZ J (by assumption) ?_|refine aA J (fun h=>?_) (fun h=>?_)|refine aR progOk.mo ?_|refine bk 4 J [(0,_),(1,_),(4,_)] (q3Q J J J) (fun (k : Nat)=>[(6,.one (.d (.int .i64 (k : Int))))]) (fun (k : Nat)=>k≤l.length∧l.all aH = (l.drop k).all aH) (fun (k : Nat)=>l.length - k) 0 (q1Q J) ?_ (fun k ⟨hk0,hq⟩=>?_)|refine bk 14 J [(0,_),(1,_),(4,_)] (q3Q J J J) (fun (j : Nat)=>[(9,.one (.d (.int .i64 (j : Int))))]) (fun (j : Nat)=>j≤l.length∧bi l = bi (l.drop j)) (fun (j : Nat)=>l.length - j) 0 (q1Q J) ?_ (fun j ⟨hk1,hq1⟩=>?_))|(refine bP ?_; first|refine bG (by kernel_rfl) ?_|refine d_e aa J J J (aK J J) ?_|(refine h8H ?_; refine d_e aa J J J (ar J J J J J (by omega) (aJ (by omega))) ?_)|(refine h9H ?_; first|refine d_l J J (bj J J J J J J (kx _) J) ?_|refine d_l J J (bj J J J J J J (sL (at_ l 0) (at_ l 1) (hx (aD hq ‹decide ((k : Int) < ((l.map aj).length : Int)) = false›) (by simpa using ‹(!kdF 15 l) = false›) (aQ hq1 h)).1 (hx (aD hq ‹decide ((k : Int) < ((l.map aj).length : Int)) = false›) (by simpa using ‹(!kdF 15 l) = false›) (aQ hq1 h)).2) J) ?_)|refine ca aa J J J ?_)|(show Exists _; first|refine Exists.intro (j + 1) ⟨?_,?_,(by first|(repeat' first|exact ap|refine af J ?_) <;> fail|fail),(q1Q J),(q3Q J J J)⟩|refine Exists.intro (k + 1) ⟨?_,?_,(by first|(repeat' first|exact ap|refine af J ?_) <;> fail|fail),(q1Q J),(q3Q J J J)⟩)|refine ak ?_|refine aC ?_|refine bd ?_|refine aG ?_|refine aP ?_|refine aX J ?_|refine ai (.inl J) J J ?_)
 all_goals first
  | exact ⟨Nat.zero_le _,rfl⟩
  | exact fV (ef hq (by simpa using ‹decide ((k : Int) < ((l.map aj).length : Int)) = true›) (by rw [← ne2]; exact h))
  | (have hlt : k < l.length:=by simpa using ‹decide ((k : Int) < ((l.map aj).length : Int)) = true›
     exact ⟨hlt,eg hq hlt (by rw [← ne2]; exact h)⟩)
  | (have hlt : k < l.length:=by simpa using ‹decide ((k : Int) < ((l.map aj).length : Int)) = true›
     show l.length - (k + 1) < l.length - k
     omega)
  | exact fW (aD hq ‹decide ((k : Int) < ((l.map aj).length : Int)) = false›) h
  | exact eP (rv:=aY (qC 15 (gD (at_ l 0) (at_ l 1)))) (aD hq ‹decide ((k : Int) < ((l.map aj).length : Int)) = false›) ‹(!kdF 15 l) = false› (.inr (aQ hq1 h)) rfl
  | exact iG (aD hq ‹decide ((k : Int) < ((l.map aj).length : Int)) = false›) ‹(!kdF 15 l) = false› rfl hq1 (by simpa using ‹decide ((j : Int) < ((l.map aj).length : Int)) = true›) h
  | (have hlt : j < l.length:=by simpa using ‹decide ((j : Int) < ((l.map aj).length : Int)) = true›
     exact ⟨hlt,hq1.trans (c0 hlt h)⟩)
  | (have hlt : j < l.length:=by simpa using ‹decide ((j : Int) < ((l.map aj).length : Int)) = true›
     show l.length - (j + 1) < l.length - j
     omega)
  | skip
set_option maxHeartbeats 2000000 in
theorem EQ(l : List Val)(hl : l.length = 2) : CallA Tryz.prog 187 [.one (.d (.int .i64 16)),.one (.d (bf l))] [] (cV (doF 16 l)) []:=by
 have h228 : CallA Tryz.prog 228 [.one (.d (.int .i64 16))] [] (.one (.d (.int .i64 2))) []:=fC 16
 have hlen : (((l.map aj).length : Int) != 2) = false:=by rw [List.length_map,hl]; rfl
 have hkc:=fD 16 ⟨by omega,by omega⟩ l hl
 have hsc:=fE 16 ⟨by omega,by omega⟩ l hl
 have hx : l.all aH = true→kdF 16 l = true→bi l = none→aH (at_ l 0) = true∧aH (at_ l 1) = true:=fun hr _ _=>⟨dR hr (by omega),dR hr (by omega)⟩
 by_cases hz : (at_ l 0).kind = 2
 all_goals refine enter ab Tryz.func187 rfl (by decide +kernel) rfl fun hok w0 σ0 φ0 M=>?_
 all_goals clear hok
 repeat' (first|(refine h6H ?_; first|refine ac ?_|refine ah ab J J J J J ?_|(refine h0H ?_; refine aT J J (by first|assumption|rfl) ?_)|(refine h1H ?_; refine s_e aa J J J (aL J J J J (aN (by omega) (by omega))) ?_)|(refine h2H ?_; refine s_e aa J J J (az J J (by first|rfl|assumption) J) ?_)|(refine h3H ?_; first|refine s_e aa J J J (ar J J J J J (by omega) (aJ (by omega))) ?_|refine s_e aa J J J (ar J J J J J (by first|omega|((try simp only [a0A,a1A,a2A,a3A,a4A,a5A,a6A,a7A,a8A,a9A,au,av] at *); omega)) (aJ (by first|omega|((try simp only [a0A,a1A,a2A,a3A,a4A,a5A,a6A,a7A,a8A,a9A,au,av] at *); omega)))) ?_)|(refine h4H ?_; first|refine ag J J J J J J J J (h228) J ?_|refine ag J J J J J J J J (eD _) J ?_|refine ag J J J J J J J J (hkc) J ?_|refine ag J J J J J J J J (hsc) J ?_|refine ag J J J J J J J J (kF _ (hx (aD hq ‹decide ((k : Int) < ((l.map aj).length : Int)) = false›) (by simpa using ‹(!kdF 16 l) = false›) (aQ hq1 h)).1 hz) J ?_|refine ba 16 J J J J J J J J (eU _ (hx (aD hq ‹decide ((k : Int) < ((l.map aj).length : Int)) = false›) (by simpa using ‹(!kdF 16 l) = false›) (aQ hq1 h)).1 hz) J J J ?_)|(refine h5H ?_; first|refine ax ab 0 J J J J J ?_|refine ax ab 1 J J J J J ?_|refine ax ab 2 J J J J J ?_)|refine aI aa J J J ?_)|(refine h7H ?_; first|refine al ?_|refine ae ?_|refine ay ?_|refine aw ?_|refine am ?_|refine aW ?_|refine bc J ?_|refine bm J ?_|refine aZ J (by assumption) ?_|refine aA J (fun h=>?_) (fun h=>?_)|refine aR progOk.mo ?_|refine bk 4 J [(0,_),(1,_),(4,_)] (q3Q J J J) (fun (k : Nat)=>[(6,.one (.d (.int .i64 (k : Int))))]) (fun (k : Nat)=>k≤l.length∧l.all aH = (l.drop k).all aH) (fun (k : Nat)=>l.length - k) 0 (q1Q J) ?_ (fun k ⟨hk0,hq⟩=>?_)|refine bk 14 J [(0,_),(1,_),(4,_)] (q3Q J J J) (fun (j : Nat)=>[(9,.one (.d (.int .i64 (j : Int))))]) (fun (j : Nat)=>j≤l.length∧bi l = bi (l.drop j)) (fun (j : Nat)=>l.length - j) 0 (q1Q J) ?_ (fun j ⟨hk1,hq1⟩=>?_))|(refine bP ?_; first|refine bG (by kernel_rfl) ?_|refine d_e aa J J J (aK J J) ?_|(refine h8H ?_; refine d_e aa J J J (ar J J J J J (by omega) (aJ (by omega))) ?_)|(refine h9H ?_; first|refine d_l J J (bj J J J J J J (kx _) J) ?_|refine d_l J J (bj J J J J J J (sL (at_ l 0) (at_ l 1) (hx (aD hq ‹decide ((k : Int) < ((l.map aj).length : Int)) = false›) (by simpa using ‹(!kdF 16 l) = false›) (aQ hq1 h)).1 (hx (aD hq ‹decide ((k : Int) < ((l.map aj).length : Int)) = false›) (by simpa using ‹(!kdF 16 l) = false›) (aQ hq1 h)).2) J) ?_)|refine ca aa J J J ?_)|(show Exists _; first|refine Exists.intro (j + 1) ⟨?_,?_,(by first|(repeat' first|exact ap|refine af J ?_) <;> fail|fail),(q1Q J),(q3Q J J J)⟩|refine Exists.intro (k + 1) ⟨?_,?_,(by first|(repeat' first|exact ap|refine af J ?_) <;> fail|fail),(q1Q J),(q3Q J J J)⟩)|refine ak ?_|refine aC ?_|refine bd ?_|refine aG ?_|refine aP ?_|refine aX J ?_|refine ai (.inl J) J J ?_)
 all_goals first
  | exact ⟨Nat.zero_le _,rfl⟩
  | exact fV (ef hq (by simpa using ‹decide ((k : Int) < ((l.map aj).length : Int)) = true›) (by rw [← ne2]; exact h))
  | (have hlt : k < l.length:=by simpa using ‹decide ((k : Int) < ((l.map aj).length : Int)) = true›
     exact ⟨hlt,eg hq hlt (by rw [← ne2]; exact h)⟩)
  | (have hlt : k < l.length:=by simpa using ‹decide ((k : Int) < ((l.map aj).length : Int)) = true›
     show l.length - (k + 1) < l.length - k
     omega)
  | exact fW (aD hq ‹decide ((k : Int) < ((l.map aj).length : Int)) = false›) h
  | exact eP (rv:=aY (qC 16 (gD (at_ l 0) (at_ l 1)))) (aD hq ‹decide ((k : Int) < ((l.map aj).length : Int)) = false›) ‹(!kdF 16 l) = false› (.inr (aQ hq1 h)) rfl
  | exact iG (aD hq ‹decide ((k : Int) < ((l.map aj).length : Int)) = false›) ‹(!kdF 16 l) = false› rfl hq1 (by simpa using ‹decide ((j : Int) < ((l.map aj).length : Int)) = true›) h
  | (have hlt : j < l.length:=by simpa using ‹decide ((j : Int) < ((l.map aj).length : Int)) = true›
     exact ⟨hlt,hq1.trans (c0 hlt h)⟩)
  | (have hlt : j < l.length:=by simpa using ‹decide ((j : Int) < ((l.map aj).length : Int)) = true›
     show l.length - (j + 1) < l.length - j
     omega)
  | skip
set_option maxHeartbeats 2000000 in
theorem ER(l : List Val)(hl : l.length = 2) : CallA Tryz.prog 187 [.one (.d (.int .i64 17)),.one (.d (bf l))] [] (cV (doF 17 l)) []:=by
 have h228 : CallA Tryz.prog 228 [.one (.d (.int .i64 17))] [] (.one (.d (.int .i64 2))) []:=fC 17
 have hlen : (((l.map aj).length : Int) != 2) = false:=by rw [List.length_map,hl]; rfl
 have hkc:=fD 17 ⟨by omega,by omega⟩ l hl
 have hsc:=fE 17 ⟨by omega,by omega⟩ l hl
 have hx : l.all aH = true→kdF 17 l = true→bi l = none→aH (at_ l 0) = true∧aH (at_ l 1) = true:=fun hr _ _=>⟨dR hr (by omega),dR hr (by omega)⟩
 by_cases hz : (at_ l 0).kind = 2
 all_goals refine enter ab Tryz.func187 rfl (by decide +kernel) rfl fun hok w0 σ0 φ0 M=>?_
 all_goals clear hok
 repeat' (first|(refine h6H ?_; first|refine ac ?_|refine ah ab J J J J J ?_|(refine h0H ?_; refine aT J J (by first|assumption|rfl) ?_)|(refine h1H ?_; refine s_e aa J J J (aL J J J J (aN (by omega) (by omega))) ?_)|(refine h2H ?_; refine s_e aa J J J (az J J (by first|rfl|assumption) J) ?_)|(refine h3H ?_; first|refine s_e aa J J J (ar J J J J J (by omega) (aJ (by omega))) ?_|refine s_e aa J J J (ar J J J J J (by first|omega|((try simp only [a0A,a1A,a2A,a3A,a4A,a5A,a6A,a7A,a8A,a9A,au,av] at *); omega)) (aJ (by first|omega|((try simp only [a0A,a1A,a2A,a3A,a4A,a5A,a6A,a7A,a8A,a9A,au,av] at *); omega)))) ?_)|(refine h4H ?_; first|refine ag J J J J J J J J (h228) J ?_|refine ag J J J J J J J J (eD _) J ?_|refine ag J J J J J J J J (hkc) J ?_|refine ag J J J J J J J J (hsc) J ?_|refine ag J J J J J J J J (kF _ (hx (aD hq ‹decide ((k : Int) < ((l.map aj).length : Int)) = false›) (by simpa using ‹(!kdF 17 l) = false›) (aQ hq1 h)).1 hz) J ?_|refine ba 16 J J J J J J J J (eU _ (hx (aD hq ‹decide ((k : Int) < ((l.map aj).length : Int)) = false›) (by simpa using ‹(!kdF 17 l) = false›) (aQ hq1 h)).1 hz) J J J ?_)|(refine h5H ?_; first|refine ax ab 0 J J J J J ?_|refine ax ab 1 J J J J J ?_|refine ax ab 2 J J J J J ?_)|refine aI aa J J J ?_)|(refine h7H ?_; first|refine al ?_|refine ae ?_|refine ay ?_|refine aw ?_|refine am ?_|refine aW ?_|refine bc J ?_|refine bm J ?_|refine aZ J (by assumption) ?_|refine aA J (fun h=>?_) (fun h=>?_)|refine aR progOk.mo ?_|refine bk 4 J [(0,_),(1,_),(4,_)] (q3Q J J J) (fun (k : Nat)=>[(6,.one (.d (.int .i64 (k : Int))))]) (fun (k : Nat)=>k≤l.length∧l.all aH = (l.drop k).all aH) (fun (k : Nat)=>l.length - k) 0 (q1Q J) ?_ (fun k ⟨hk0,hq⟩=>?_)|refine bk 14 J [(0,_),(1,_),(4,_)] (q3Q J J J) (fun (j : Nat)=>[(9,.one (.d (.int .i64 (j : Int))))]) (fun (j : Nat)=>j≤l.length∧bi l = bi (l.drop j)) (fun (j : Nat)=>l.length - j) 0 (q1Q J) ?_ (fun j ⟨hk1,hq1⟩=>?_))|(refine bP ?_; first|refine bG (by kernel_rfl) ?_|refine d_e aa J J J (aK J J) ?_|(refine h8H ?_; refine d_e aa J J J (ar J J J J J (by omega) (aJ (by omega))) ?_)|(refine h9H ?_; first|refine d_l J J (bj J J J J J J (kx _) J) ?_|refine d_l J J (bj J J J J J J (sL (at_ l 0) (at_ l 1) (hx (aD hq ‹decide ((k : Int) < ((l.map aj).length : Int)) = false›) (by simpa using ‹(!kdF 17 l) = false›) (aQ hq1 h)).1 (hx (aD hq ‹decide ((k : Int) < ((l.map aj).length : Int)) = false›) (by simpa using ‹(!kdF 17 l) = false›) (aQ hq1 h)).2) J) ?_)|refine ca aa J J J ?_)|(show Exists _; first|refine Exists.intro (j + 1) ⟨?_,?_,(by first|(repeat' first|exact ap|refine af J ?_) <;> fail|fail),(q1Q J),(q3Q J J J)⟩|refine Exists.intro (k + 1) ⟨?_,?_,(by first|(repeat' first|exact ap|refine af J ?_) <;> fail|fail),(q1Q J),(q3Q J J J)⟩)|refine ak ?_|refine aC ?_|refine bd ?_|refine aG ?_|refine aP ?_|refine aX J ?_|refine ai (.inl J) J J ?_)
 all_goals first
  | exact ⟨Nat.zero_le _,rfl⟩
  | exact fV (ef hq (by simpa using ‹decide ((k : Int) < ((l.map aj).length : Int)) = true›) (by rw [← ne2]; exact h))
  | (have hlt : k < l.length:=by simpa using ‹decide ((k : Int) < ((l.map aj).length : Int)) = true›
     exact ⟨hlt,eg hq hlt (by rw [← ne2]; exact h)⟩)
  | (have hlt : k < l.length:=by simpa using ‹decide ((k : Int) < ((l.map aj).length : Int)) = true›
     show l.length - (k + 1) < l.length - k
     omega)
  | exact fW (aD hq ‹decide ((k : Int) < ((l.map aj).length : Int)) = false›) h
  | exact eP (rv:=aY (qC 17 (gD (at_ l 0) (at_ l 1)))) (aD hq ‹decide ((k : Int) < ((l.map aj).length : Int)) = false›) ‹(!kdF 17 l) = false› (.inr (aQ hq1 h)) rfl
  | exact iG (aD hq ‹decide ((k : Int) < ((l.map aj).length : Int)) = false›) ‹(!kdF 17 l) = false› rfl hq1 (by simpa using ‹decide ((j : Int) < ((l.map aj).length : Int)) = true›) h
  | (have hlt : j < l.length:=by simpa using ‹decide ((j : Int) < ((l.map aj).length : Int)) = true›
     exact ⟨hlt,hq1.trans (c0 hlt h)⟩)
  | (have hlt : j < l.length:=by simpa using ‹decide ((j : Int) < ((l.map aj).length : Int)) = true›
     show l.length - (j + 1) < l.length - j
     omega)
  | skip
set_option maxHeartbeats 2000000 in
theorem ES(l : List Val)(hl : l.length = 2) : CallA Tryz.prog 187 [.one (.d (.int .i64 18)),.one (.d (bf l))] [] (cV (doF 18 l)) []:=by
 have h228 : CallA Tryz.prog 228 [.one (.d (.int .i64 18))] [] (.one (.d (.int .i64 2))) []:=fC 18
 have hlen : (((l.map aj).length : Int) != 2) = false:=by rw [List.length_map,hl]; rfl
 have hkc:=fD 18 ⟨by omega,by omega⟩ l hl
 have hsc:=fE 18 ⟨by omega,by omega⟩ l hl
 have hx : l.all aH = true→kdF 18 l = true→bi l = none→aH (at_ l 0) = true∧aH (at_ l 1) = true:=fun hr _ _=>⟨dR hr (by omega),dR hr (by omega)⟩
 by_cases hz : (at_ l 0).kind = 2
 all_goals refine enter ab Tryz.func187 rfl (by decide +kernel) rfl fun hok w0 σ0 φ0 M=>?_
 all_goals clear hok
 repeat' (first|(refine h6H ?_; first|refine ac ?_|refine ah ab J J J J J ?_|(refine h0H ?_; refine aT J J (by first|assumption|rfl) ?_)|(refine h1H ?_; refine s_e aa J J J (aL J J J J (aN (by omega) (by omega))) ?_)|(refine h2H ?_; refine s_e aa J J J (az J J (by first|rfl|assumption) J) ?_)|(refine h3H ?_; first|refine s_e aa J J J (ar J J J J J (by omega) (aJ (by omega))) ?_|refine s_e aa J J J (ar J J J J J (by first|omega|((try simp only [a0A,a1A,a2A,a3A,a4A,a5A,a6A,a7A,a8A,a9A,au,av] at *); omega)) (aJ (by first|omega|((try simp only [a0A,a1A,a2A,a3A,a4A,a5A,a6A,a7A,a8A,a9A,au,av] at *); omega)))) ?_)|(refine h4H ?_; first|refine ag J J J J J J J J (h228) J ?_|refine ag J J J J J J J J (eD _) J ?_|refine ag J J J J J J J J (hkc) J ?_|refine ag J J J J J J J J (hsc) J ?_|refine ag J J J J J J J J (kF _ (hx (aD hq ‹decide ((k : Int) < ((l.map aj).length : Int)) = false›) (by simpa using ‹(!kdF 18 l) = false›) (aQ hq1 h)).1 hz) J ?_|refine ba 16 J J J J J J J J (eU _ (hx (aD hq ‹decide ((k : Int) < ((l.map aj).length : Int)) = false›) (by simpa using ‹(!kdF 18 l) = false›) (aQ hq1 h)).1 hz) J J J ?_)|(refine h5H ?_; first|refine ax ab 0 J J J J J ?_|refine ax ab 1 J J J J J ?_|refine ax ab 2 J J J J J ?_)|refine aI aa J J J ?_)|(refine h7H ?_; first|refine al ?_|refine ae ?_|refine ay ?_|refine aw ?_|refine am ?_|refine aW ?_|refine bc J ?_|refine bm J ?_|refine aZ J (by assumption) ?_|refine aA J (fun h=>?_) (fun h=>?_)|refine aR progOk.mo ?_|refine bk 4 J [(0,_),(1,_),(4,_)] (q3Q J J J) (fun (k : Nat)=>[(6,.one (.d (.int .i64 (k : Int))))]) (fun (k : Nat)=>k≤l.length∧l.all aH = (l.drop k).all aH) (fun (k : Nat)=>l.length - k) 0 (q1Q J) ?_ (fun k ⟨hk0,hq⟩=>?_)|refine bk 14 J [(0,_),(1,_),(4,_)] (q3Q J J J) (fun (j : Nat)=>[(9,.one (.d (.int .i64 (j : Int))))]) (fun (j : Nat)=>j≤l.length∧bi l = bi (l.drop j)) (fun (j : Nat)=>l.length - j) 0 (q1Q J) ?_ (fun j ⟨hk1,hq1⟩=>?_))|(refine bP ?_; first|refine bG (by kernel_rfl) ?_|refine d_e aa J J J (aK J J) ?_|(refine h8H ?_; refine d_e aa J J J (ar J J J J J (by omega) (aJ (by omega))) ?_)|(refine h9H ?_; first|refine d_l J J (bj J J J J J J (kx _) J) ?_|refine d_l J J (bj J J J J J J (sL (at_ l 0) (at_ l 1) (hx (aD hq ‹decide ((k : Int) < ((l.map aj).length : Int)) = false›) (by simpa using ‹(!kdF 18 l) = false›) (aQ hq1 h)).1 (hx (aD hq ‹decide ((k : Int) < ((l.map aj).length : Int)) = false›) (by simpa using ‹(!kdF 18 l) = false›) (aQ hq1 h)).2) J) ?_)|refine ca aa J J J ?_)|(show Exists _; first|refine Exists.intro (j + 1) ⟨?_,?_,(by first|(repeat' first|exact ap|refine af J ?_) <;> fail|fail),(q1Q J),(q3Q J J J)⟩|refine Exists.intro (k + 1) ⟨?_,?_,(by first|(repeat' first|exact ap|refine af J ?_) <;> fail|fail),(q1Q J),(q3Q J J J)⟩)|refine ak ?_|refine aC ?_|refine bd ?_|refine aG ?_|refine aP ?_|refine aX J ?_|refine ai (.inl J) J J ?_)
 all_goals first
  | exact ⟨Nat.zero_le _,rfl⟩
  | exact fV (ef hq (by simpa using ‹decide ((k : Int) < ((l.map aj).length : Int)) = true›) (by rw [← ne2]; exact h))
  | (have hlt : k < l.length:=by simpa using ‹decide ((k : Int) < ((l.map aj).length : Int)) = true›
     exact ⟨hlt,eg hq hlt (by rw [← ne2]; exact h)⟩)
  | (have hlt : k < l.length:=by simpa using ‹decide ((k : Int) < ((l.map aj).length : Int)) = true›
     show l.length - (k + 1) < l.length - k
     omega)
  | exact fW (aD hq ‹decide ((k : Int) < ((l.map aj).length : Int)) = false›) h
  | exact eP (rv:=aY (qC 18 (gD (at_ l 0) (at_ l 1)))) (aD hq ‹decide ((k : Int) < ((l.map aj).length : Int)) = false›) ‹(!kdF 18 l) = false› (.inr (aQ hq1 h)) rfl
  | exact iG (aD hq ‹decide ((k : Int) < ((l.map aj).length : Int)) = false›) ‹(!kdF 18 l) = false› rfl hq1 (by simpa using ‹decide ((j : Int) < ((l.map aj).length : Int)) = true›) h
  | (have hlt : j < l.length:=by simpa using ‹decide ((j : Int) < ((l.map aj).length : Int)) = true›
     exact ⟨hlt,hq1.trans (c0 hlt h)⟩)
  | (have hlt : j < l.length:=by simpa using ‹decide ((j : Int) < ((l.map aj).length : Int)) = true›
     show l.length - (j + 1) < l.length - j
     omega)
  | skip
end Go.Proofs.YtpejdgkaapnekaaGreat
namespace Go.Proofs.YtpejdgkaapnekaaGreat
open Go Go.Abs
attribute [local irreducible] ao OkC aU bg aV bA
set_option maxRecDepth 10000
set_option maxHeartbeats 2000000 in
theorem E5(l : List Val)(hl : l.length = 2) : CallA Tryz.prog 187 [.one (.d (.int .i64 19)),.one (.d (bf l))] [] (cV (doF 19 l)) []:=by
 have h228 : CallA Tryz.prog 228 [.one (.d (.int .i64 19))] [] (.one (.d (.int .i64 2))) []:=fC 19
 have hlen : (((l.map aj).length : Int) != 2) = false:=by rw [List.length_map,hl]; rfl
 have hkc:=fD 19 ⟨by omega,by omega⟩ l hl
 have hsc:=fE 19 ⟨by omega,by omega⟩ l hl
 have hx : l.all aH = true→kdF 19 l = true→bi l = none→aH (at_ l 0) = true∧(at_ l 0).kind = 1:=fun hr hk hm=>kd1 (op:=0) hr hk hm (by omega)
 all_goals refine enter ab Tryz.func187 rfl (by decide +kernel) rfl fun hok w0 σ0 φ0 M=>?_
 all_goals clear hok
 repeat' (first|(refine h6H ?_; first|refine ac ?_|refine ah ab J J J J J ?_|(refine h0H ?_; refine aT J J (by first|assumption|rfl) ?_)|(refine h1H ?_; refine s_e aa J J J (aL J J J J (aN (by omega) (by omega))) ?_)|(refine h2H ?_; refine s_e aa J J J (az J J (by first|rfl|assumption) J) ?_)|(refine h3H ?_; first|refine s_e aa J J J (ar J J J J J (by omega) (aJ (by omega))) ?_|refine s_e aa J J J (ar J J J J J (by first|omega|((try simp only [a0A,a1A,a2A,a3A,a4A,a5A,a6A,a7A,a8A,a9A,au,av] at *); omega)) (aJ (by first|omega|((try simp only [a0A,a1A,a2A,a3A,a4A,a5A,a6A,a7A,a8A,a9A,au,av] at *); omega)))) ?_)|(refine h4H ?_; first|refine ag J J J J J J J J (h228) J ?_|refine ag J J J J J J J J (eD _) J ?_|refine ag J J J J J J J J (hkc) J ?_|refine ag J J J J J J J J (hsc) J ?_|refine ag J J J J J J J J (kx _) J ?_|refine ag J J J J J J J J (kF _ (hx (aD hq ‹decide ((k : Int) < ((l.map aj).length : Int)) = false›) (by simpa using ‹(!kdF 19 l) = false›) (aQ hq1 h)).1 (wm (hx (aD hq ‹decide ((k : Int) < ((l.map aj).length : Int)) = false›) (by simpa using ‹(!kdF 19 l) = false›) (aQ hq1 h)).2)) J ?_)|(refine h5H ?_; first|refine ax ab 0 J J J J J ?_|refine ax ab 1 J J J J J ?_|refine ax ab 2 J J J J J ?_)|refine aI aa J J J ?_)|(refine h7H ?_; first|refine al ?_|refine ae ?_|refine ay ?_|refine aw ?_|refine am ?_|refine aW ?_|refine bc J ?_|refine bm J ?_|refine aZ J (by assumption) ?_|refine aA J (fun h=>?_) (fun h=>?_)|refine bk 4 J [(0,_),(1,_),(4,_)] (q3Q J J J) (fun (k : Nat)=>[(6,.one (.d (.int .i64 (k : Int))))]) (fun (k : Nat)=>k≤l.length∧l.all aH = (l.drop k).all aH) (fun (k : Nat)=>l.length - k) 0 (q1Q J) ?_ (fun k ⟨hk0,hq⟩=>?_)|refine bk 14 J [(0,_),(1,_),(4,_)] (q3Q J J J) (fun (j : Nat)=>[(9,.one (.d (.int .i64 (j : Int))))]) (fun (j : Nat)=>j≤l.length∧bi l = bi (l.drop j)) (fun (j : Nat)=>l.length - j) 0 (q1Q J) ?_ (fun j ⟨hk1,hq1⟩=>?_))|(show Exists _; first|refine Exists.intro (j + 1) ⟨?_,?_,(by first|(repeat' first|exact ap|refine af J ?_) <;> fail|fail),(q1Q J),(q3Q J J J)⟩|refine Exists.intro (k + 1) ⟨?_,?_,(by first|(repeat' first|exact ap|refine af J ?_) <;> fail|fail),(q1Q J),(q3Q J J J)⟩)|refine ak ?_|refine aC ?_|refine bd ?_|refine aG ?_|refine aP ?_|refine aX J ?_|refine ai (.inl J) J J ?_)
 all_goals first
  | exact ⟨Nat.zero_le _,rfl⟩
  | exact fV (ef hq (by simpa using ‹decide ((k : Int) < ((l.map aj).length : Int)) = true›) (by rw [← ne2]; exact h))
  | (have hlt : k < l.length:=by simpa using ‹decide ((k : Int) < ((l.map aj).length : Int)) = true›
     exact ⟨hlt,eg hq hlt (by rw [← ne2]; exact h)⟩)
  | (have hlt : k < l.length:=by simpa using ‹decide ((k : Int) < ((l.map aj).length : Int)) = true›
     show l.length - (k + 1) < l.length - k
     omega)
  | exact fW (aD hq ‹decide ((k : Int) < ((l.map aj).length : Int)) = false›) h
  | exact eP (rv:=aY false) (aD hq ‹decide ((k : Int) < ((l.map aj).length : Int)) = false›) ‹(!kdF 19 l) = false› (.inl rfl) (wn h)
  | exact BC (b:=false) (by simp) (aD hq ‹decide ((k : Int) < ((l.map aj).length : Int)) = false›) ‹(!kdF 19 l) = false› ‹(b9 (at_ l 0) (aY false) || b9 (at_ l 1) (aY false)) = false› hq1 (by simpa using ‹decide ((j : Int) < ((l.map aj).length : Int)) = true›) h
  | exact eP (rv:=aY true) (aD hq ‹decide ((k : Int) < ((l.map aj).length : Int)) = false›) ‹(!kdF 19 l) = false› (.inl rfl) ((by rw [(aQ hq1 h)]; rfl : aY true = (bi l).getD (aY (!false))).trans (oH ‹(b9 (at_ l 0) (aY false) || b9 (at_ l 1) (aY false)) = false›))
  | exact iG (aD hq ‹decide ((k : Int) < ((l.map aj).length : Int)) = false›) ‹(!kdF 19 l) = false› rfl hq1 (by simpa using ‹decide ((j : Int) < ((l.map aj).length : Int)) = true›) h
  | (have hlt : j < l.length:=by simpa using ‹decide ((j : Int) < ((l.map aj).length : Int)) = true›
     exact ⟨hlt,hq1.trans (c0 hlt h)⟩)
  | (have hlt : j < l.length:=by simpa using ‹decide ((j : Int) < ((l.map aj).length : Int)) = true›
     show l.length - (j + 1) < l.length - j
     omega)
  | skip
set_option maxHeartbeats 2000000 in
theorem E6(l : List Val)(hl : l.length = 2) : CallA Tryz.prog 187 [.one (.d (.int .i64 20)),.one (.d (bf l))] [] (cV (doF 20 l)) []:=by
 have h228 : CallA Tryz.prog 228 [.one (.d (.int .i64 20))] [] (.one (.d (.int .i64 2))) []:=fC 20
 have hlen : (((l.map aj).length : Int) != 2) = false:=by rw [List.length_map,hl]; rfl
 have hkc:=fD 20 ⟨by omega,by omega⟩ l hl
 have hsc:=fE 20 ⟨by omega,by omega⟩ l hl
 have hx : l.all aH = true→kdF 20 l = true→bi l = none→aH (at_ l 0) = true∧(at_ l 0).kind = 1:=fun hr hk hm=>kd1 (op:=0) hr hk hm (by omega)
 all_goals refine enter ab Tryz.func187 rfl (by decide +kernel) rfl fun hok w0 σ0 φ0 M=>?_
 all_goals clear hok
 repeat' (first|(refine h6H ?_; first|refine ac ?_|refine ah ab J J J J J ?_|(refine h0H ?_; refine aT J J (by first|assumption|rfl) ?_)|(refine h1H ?_; refine s_e aa J J J (aL J J J J (aN (by omega) (by omega))) ?_)|(refine h2H ?_; refine s_e aa J J J (az J J (by first|rfl|assumption) J) ?_)|(refine h3H ?_; first|refine s_e aa J J J (ar J J J J J (by omega) (aJ (by omega))) ?_|refine s_e aa J J J (ar J J J J J (by first|omega|((try simp only [a0A,a1A,a2A,a3A,a4A,a5A,a6A,a7A,a8A,a9A,au,av] at *); omega)) (aJ (by first|omega|((try simp only [a0A,a1A,a2A,a3A,a4A,a5A,a6A,a7A,a8A,a9A,au,av] at *); omega)))) ?_)|(refine h4H ?_; first|refine ag J J J J J J J J (h228) J ?_|refine ag J J J J J J J J (eD _) J ?_|refine ag J J J J J J J J (hkc) J ?_|refine ag J J J J J J J J (hsc) J ?_|refine ag J J J J J J J J (kx _) J ?_|refine ag J J J J J J J J (kF _ (hx (aD hq ‹decide ((k : Int) < ((l.map aj).length : Int)) = false›) (by simpa using ‹(!kdF 20 l) = false›) (aQ hq1 h)).1 (wm (hx (aD hq ‹decide ((k : Int) < ((l.map aj).length : Int)) = false›) (by simpa using ‹(!kdF 20 l) = false›) (aQ hq1 h)).2)) J ?_)|(refine h5H ?_; first|refine ax ab 0 J J J J J ?_|refine ax ab 1 J J J J J ?_|refine ax ab 2 J J J J J ?_)|refine aI aa J J J ?_)|(refine h7H ?_; first|refine al ?_|refine ae ?_|refine ay ?_|refine aw ?_|refine am ?_|refine aW ?_|refine bc J ?_|refine bm J ?_|refine aZ J (by assumption) ?_|refine aA J (fun h=>?_) (fun h=>?_)|refine bk 4 J [(0,_),(1,_),(4,_)] (q3Q J J J) (fun (k : Nat)=>[(6,.one (.d (.int .i64 (k : Int))))]) (fun (k : Nat)=>k≤l.length∧l.all aH = (l.drop k).all aH) (fun (k : Nat)=>l.length - k) 0 (q1Q J) ?_ (fun k ⟨hk0,hq⟩=>?_)|refine bk 14 J [(0,_),(1,_),(4,_)] (q3Q J J J) (fun (j : Nat)=>[(9,.one (.d (.int .i64 (j : Int))))]) (fun (j : Nat)=>j≤l.length∧bi l = bi (l.drop j)) (fun (j : Nat)=>l.length - j) 0 (q1Q J) ?_ (fun j ⟨hk1,hq1⟩=>?_))|(show Exists _; first|refine Exists.intro (j + 1) ⟨?_,?_,(by first|(repeat' first|exact ap|refine af J ?_) <;> fail|fail),(q1Q J),(q3Q J J J)⟩|refine Exists.intro (k + 1) ⟨?_,?_,(by first|(repeat' first|exact ap|refine af J ?_) <;> fail|fail),(q1Q J),(q3Q J J J)⟩)|refine ak ?_|refine aC ?_|refine bd ?_|refine aG ?_|refine aP ?_|refine aX J ?_|refine ai (.inl J) J J ?_)
 all_goals first
  | exact ⟨Nat.zero_le _,rfl⟩
  | exact fV (ef hq (by simpa using ‹decide ((k : Int) < ((l.map aj).length : Int)) = true›) (by rw [← ne2]; exact h))
  | (have hlt : k < l.length:=by simpa using ‹decide ((k : Int) < ((l.map aj).length : Int)) = true›
     exact ⟨hlt,eg hq hlt (by rw [← ne2]; exact h)⟩)
  | (have hlt : k < l.length:=by simpa using ‹decide ((k : Int) < ((l.map aj).length : Int)) = true›
     show l.length - (k + 1) < l.length - k
     omega)
  | exact fW (aD hq ‹decide ((k : Int) < ((l.map aj).length : Int)) = false›) h
  | exact eP (rv:=aY true) (aD hq ‹decide ((k : Int) < ((l.map aj).length : Int)) = false›) ‹(!kdF 20 l) = false› (.inl rfl) (wn h)
  | exact BC (b:=true) (by simp) (aD hq ‹decide ((k : Int) < ((l.map aj).length : Int)) = false›) ‹(!kdF 20 l) = false› ‹(b9 (at_ l 0) (aY true) || b9 (at_ l 1) (aY true)) = false› hq1 (by simpa using ‹decide ((j : Int) < ((l.map aj).length : Int)) = true›) h
  | exact eP (rv:=aY false) (aD hq ‹decide ((k : Int) < ((l.map aj).length : Int)) = false›) ‹(!kdF 20 l) = false› (.inl rfl) ((by rw [(aQ hq1 h)]; rfl : aY false = (bi l).getD (aY (!true))).trans (oH ‹(b9 (at_ l 0) (aY true) || b9 (at_ l 1) (aY true)) = false›))
  | exact iG (aD hq ‹decide ((k : Int) < ((l.map aj).length : Int)) = false›) ‹(!kdF 20 l) = false› rfl hq1 (by simpa using ‹decide ((j : Int) < ((l.map aj).length : Int)) = true›) h
  | (have hlt : j < l.length:=by simpa using ‹decide ((j : Int) < ((l.map aj).length : Int)) = true›
     exact ⟨hlt,hq1.trans (c0 hlt h)⟩)
  | (have hlt : j < l.length:=by simpa using ‹decide ((j : Int) < ((l.map aj).length : Int)) = true›
     show l.length - (j + 1) < l.length - j
     omega)
  | skip
set_option maxHeartbeats 2000000 in
theorem E7(l : List Val)(hl : l.length = 2) : CallA Tryz.prog 187 [.one (.d (.int .i64 21)),.one (.d (bf l))] [] (cV (doF 21 l)) []:=by
 have h228 : CallA Tryz.prog 228 [.one (.d (.int .i64 21))] [] (.one (.d (.int .i64 2))) []:=fC 21
 have hlen : (((l.map aj).length : Int) != 2) = false:=by rw [List.length_map,hl]; rfl
 have hkc:=fD 21 ⟨by omega,by omega⟩ l hl
 have hsc:=fE 21 ⟨by omega,by omega⟩ l hl
 all_goals refine enter ab Tryz.func187 rfl (by decide +kernel) rfl fun hok w0 σ0 φ0 M=>?_
 all_goals clear hok
 repeat' (first|(refine h6H ?_; first|refine ac ?_|refine ah ab J J J J J ?_|(refine h0H ?_; refine aT J J (by first|assumption|rfl) ?_)|(refine h1H ?_; refine s_e aa J J J (aL J J J J (aN (by omega) (by omega))) ?_)|(refine h2H ?_; refine s_e aa J J J (az J J (by first|rfl|assumption) J) ?_)|(refine h3H ?_; refine s_e aa J J J (ar J J J J J (by first|omega|((try simp only [a0A,a1A,a2A,a3A,a4A,a5A,a6A,a7A,a8A,a9A,au,av] at *); omega)) (aJ (by first|omega|((try simp only [a0A,a1A,a2A,a3A,a4A,a5A,a6A,a7A,a8A,a9A,au,av] at *); omega)))) ?_)|(refine h4H ?_; first|refine ag J J J J J J J J (h228) J ?_|refine ag J J J J J J J J (eD _) J ?_|refine ag J J J J J J J J (hkc) J ?_|refine ag J J J J J J J J (hsc) J ?_)|(refine h5H ?_; first|refine ax ab 0 J J J J J ?_|refine ax ab 1 J J J J J ?_)|refine aI aa J J J ?_)|(refine h7H ?_; first|refine al ?_|refine ae ?_|refine ay ?_|refine aw ?_|refine am ?_|refine aW ?_|refine bc J ?_|refine aZ J (by assumption) ?_|refine aA J (fun h=>?_) (fun h=>?_)|refine bk 4 J [(0,_),(1,_),(4,_)] (q3Q J J J) (fun (k : Nat)=>[(6,.one (.d (.int .i64 (k : Int))))]) (fun (k : Nat)=>k≤l.length∧l.all aH = (l.drop k).all aH) (fun (k : Nat)=>l.length - k) 0 (q1Q J) ?_ (fun k ⟨hk0,hq⟩=>?_))|(show Exists _; refine Exists.intro (k + 1) ⟨?_,?_,(by (repeat' first|exact ap|refine af J ?_); done),(q1Q J),(q3Q J J J)⟩)|refine ak ?_|refine aC ?_|refine bd ?_|refine aG ?_|refine aP ?_|refine aX J ?_|refine ai (.inl J) J J ?_)
 all_goals first
  | exact ⟨Nat.zero_le _,rfl⟩
  | exact fV (ef hq (by simpa using ‹decide ((k : Int) < ((l.map aj).length : Int)) = true›) (by rw [← ne2]; exact h))
  | (have hlt : k < l.length:=by simpa using ‹decide ((k : Int) < ((l.map aj).length : Int)) = true›
     exact ⟨hlt,eg hq hlt (by rw [← ne2]; exact h)⟩)
  | (have hlt : k < l.length:=by simpa using ‹decide ((k : Int) < ((l.map aj).length : Int)) = true›
     show l.length - (k + 1) < l.length - k
     omega)
  | exact fW (aD hq ‹decide ((k : Int) < ((l.map aj).length : Int)) = false›) h
  | exact eP (rv:=(lN 21 l).1) (aD hq ‹decide ((k : Int) < ((l.map aj).length : Int)) = false›) ‹(!kdF 21 l) = false› (.inl rfl) rfl
  | skip
end Go.Proofs.YtpejdgkaapnekaaGreat
namespace Go.Proofs.YtpejdgkaapnekaaGreat
open Go Go.Abs
attribute [local irreducible] ao OkC aU bg aV bA
set_option maxRecDepth 10000
set_option maxHeartbeats 2000000 in
theorem Fg(l : List Val)(hl : l.length = 3) : CallA Tryz.prog 187 [.one (.d (.int .i64 22)),.one (.d (bf l))] [] (cV (doF 22 l)) []:=by
 have h228 : CallA Tryz.prog 228 [.one (.d (.int .i64 22))] [] (.one (.d (.int .i64 3))) []:=fC 22
 have hlen : (((l.map aj).length : Int) != 3) = false:=by rw [List.length_map,hl]; rfl
 have hkc:=G4 l hl
 have hsc:=Hu l hl
 all_goals refine enter ab Tryz.func187 rfl (by decide +kernel) rfl fun hok w0 σ0 φ0 M=>?_
 all_goals clear hok
 repeat' (first|(refine h6H ?_; first|refine ac ?_|refine ah ab J J J J J ?_|(refine h0H ?_; refine aT J J (by first|assumption|rfl) ?_)|(refine h1H ?_; refine s_e aa J J J (aL J J J J (aN (by omega) (by omega))) ?_)|(refine h2H ?_; refine s_e aa J J J (az J J (by first|rfl|assumption) J) ?_)|(refine h3H ?_; refine s_e aa J J J (ar J J J J J (by first|omega|((try simp only [a0A,a1A,a2A,a3A,a4A,a5A,a6A,a7A,a8A,a9A,au,av] at *); omega)) (aJ (by first|omega|((try simp only [a0A,a1A,a2A,a3A,a4A,a5A,a6A,a7A,a8A,a9A,au,av] at *); omega)))) ?_)|(refine h4H ?_; first|refine ag J J J J J J J J (h228) J ?_|refine ag J J J J J J J J (eD _) J ?_|refine ag J J J J J J J J (hkc) J ?_|refine ag J J J J J J J J (hsc) J ?_)|(refine h5H ?_; first|refine ax ab 0 J J J J J ?_|refine ax ab 1 J J J J J ?_)|refine aI aa J J J ?_)|(refine h7H ?_; first|refine al ?_|refine ae ?_|refine ay ?_|refine aw ?_|refine am ?_|refine aW ?_|refine bc J ?_|refine aZ J (by assumption) ?_|refine aA J (fun h=>?_) (fun h=>?_)|refine bk 4 J [(0,_),(1,_),(4,_)] (q3Q J J J) (fun (k : Nat)=>[(6,.one (.d (.int .i64 (k : Int))))]) (fun (k : Nat)=>k≤l.length∧l.all aH = (l.drop k).all aH) (fun (k : Nat)=>l.length - k) 0 (q1Q J) ?_ (fun k ⟨hk0,hq⟩=>?_))|(show Exists _; refine Exists.intro (k + 1) ⟨?_,?_,(by (repeat' first|exact ap|refine af J ?_); done),(q1Q J),(q3Q J J J)⟩)|refine ak ?_|refine aC ?_|refine bd ?_|refine aG ?_|refine aP ?_|refine aX J ?_|refine ai (.inl J) J J ?_)
 all_goals first
  | exact ⟨Nat.zero_le _,rfl⟩
  | exact fV (ef hq (by simpa using ‹decide ((k : Int) < ((l.map aj).length : Int)) = true›) (by rw [← ne2]; exact h))
  | (have hlt : k < l.length:=by simpa using ‹decide ((k : Int) < ((l.map aj).length : Int)) = true›
     exact ⟨hlt,eg hq hlt (by rw [← ne2]; exact h)⟩)
  | (have hlt : k < l.length:=by simpa using ‹decide ((k : Int) < ((l.map aj).length : Int)) = true›
     show l.length - (k + 1) < l.length - k
     omega)
  | exact fW (aD hq ‹decide ((k : Int) < ((l.map aj).length : Int)) = false›) h
  | exact eP (rv:=(lN 22 l).1) (aD hq ‹decide ((k : Int) < ((l.map aj).length : Int)) = false›) ‹(!kdF 22 l) = false› (.inl rfl) (FB hl (aD hq ‹decide ((k : Int) < ((l.map aj).length : Int)) = false›) (by simpa using ‹(!kdF 22 l) = false›))
  | skip
end Go.Proofs.YtpejdgkaapnekaaGreat
namespace Go.Proofs.YtpejdgkaapnekaaGreat
open Go Go.Abs
theorem J0(op : Int)(l : List Val)(hop : 4≤op∧op≤22)(hl : (l.length : Int) = dN op) : CallA Tryz.prog 187 [.one (.d (.int .i64 op)),.one (.d (bf l))] [] (cV (doF op l)) []:=by
 rcases nM hop with rfl | rfl | rfl | rfl | rfl | rfl | rfl | rfl | rfl | rfl | rfl | rfl | rfl | rfl | rfl | rfl | rfl | rfl | rfl <;> simp [dN] at hl
 ·exact GL l (by omega)
 ·exact GM l (by omega)
 ·exact GN l (by omega)
 ·exact GO l (by omega)
 ·exact GP l (by omega)
 ·exact GQ l (by omega)
 ·exact Fd l (by omega)
 ·exact Fe l (by omega)
 ·exact Ff l (by omega)
 ·exact EN l (by omega)
 ·exact EO l (by omega)
 ·exact EP l (by omega)
 ·exact EQ l (by omega)
 ·exact ER l (by omega)
 ·exact ES l (by omega)
 ·exact E5 l (by omega)
 ·exact E6 l (by omega)
 ·exact E7 l (by omega)
 ·exact Fg l (by omega)
end Go.Proofs.YtpejdgkaapnekaaGreat
namespace Go.Proofs.YtpejdgkaapnekaaGreat
open Go Go.Abs
attribute [local irreducible] ao OkC aU bg aV bA
set_option maxRecDepth 10000
def rV(ds : List Dim)(ats : List Attr)(cs : List Cell)(s : Scalar)(at' : List Int)(vs : List Val) : Val×Int :=
 if (df ds ats cs s).2≠0 then (ic,(df ds ats cs s).2) else if dd ds ats at' vs≠0 then (ic,2) else (js ds ats at' vs s,0)
theorem yO{ds : List Dim}{ats : List Attr}{cs : List Cell}{s : Scalar}(h : (df ds ats cs s).2 = 0) : dz ds ats cs = 0∧dq s = true∧(bB s).length≤64∧∀ z∈bB s,oS ds ats z:=by
 unfold df at h
 by_cases h1 : dz ds ats cs = 0
 ·rw [if_neg (by simpa using h1)] at h
  by_cases h2 : fA s = 0
  ·rw [if_neg (by simpa using h2)] at h
   obtain ⟨hp,hsz⟩:=tA h2
   exact ⟨h1,hp,hsz,G7 s hp h⟩
  ·rw [if_pos h2] at h; exact absurd h h2
 ·rw [if_pos h1] at h; simp at h
theorem uC{ds : List Dim}{ats : List Attr}{cs : List Cell}{c : Cell}(h : dz ds ats cs = 0) : dz ds ats [c] = dd ds ats c.at' c.vals:=by
 have hs:=(okA h).sch
 unfold dz
 rw [if_neg (by simpa using hs),if_neg (by simp)]
 simp only [d6]
 split
 ·rfl
 ·rename_i h1; exact (Decidable.not_not.1 h1).symm
theorem wD{ds : List Dim}{ats : List Attr}{at' : List Int}{vs : List Val}(h : dd ds ats at' vs = 0) : at'.length = ds.length∧vs.length = ats.length:=by
 unfold dd at h
 by_cases h1 : (at'.length : Int)≠ds.length∨(vs.length : Int)≠ats.length
 ·rw [if_pos h1] at h; simp at h
 ·omega
theorem G8(ds : List Dim)(ats : List Attr)(c : Cell)(e : Int)(h : dz ds ats [c] = e) : CallA Tryz.prog 59 [.agg [.d (bZ ds),.d (bT ats),.d (.sl 2 48 [kU c])]] [] (.one (.d (.int .i64 e))) []:=by
 subst h; exact c59 ds ats [c]
theorem c38(ds : List Dim)(ats : List Attr)(cs : List Cell)(s : Scalar)(at' : List Int)(vs : List Val) : CallA Tryz.prog 38 [.agg [.d (bZ ds),.d (bT ats),.d (fu cs)],du s,.agg [.d (bI at'),.d (bf vs)]] [] (cV (rV ds ats cs s at' vs)) []:=by
 unfold rV
 refine enter ab Tryz.func38 rfl (by decide +kernel) rfl fun hok w0 σ0 φ0 M=>?_
 clear hok
 by_cases ht : (df ds ats cs s).2 = 0
 ·have hb1 : ((df ds ats cs s).2 != 0) = false:=by simp [ht]
  obtain ⟨hck,hp,hsz,hn⟩:=yO ht
  rw [if_neg (by simpa using ht)]
  by_cases hc : dd ds ats at' vs = 0
  ·have hb2 : (dd ds ats at' vs != 0) = false:=by simp [hc]
   have hl:=wD hc
   rw [if_neg (by simpa using hc)]
   repeat' (first|(refine h6H ?_; first|(refine h4H ?_; refine dL 40 [4] J J J J J J J J J (G8 ds ats ⟨at',vs⟩ _ (uC hck)) J J J ?_)|refine ac ?_|refine ah ab J J J J J ?_|(refine h4H ?_; first|refine ag J J J J J J J J (c20 _ _ _ _) J ?_|refine ag J J J J J J J J (Ku _ _ _ _ _ _ hp hsz hn hl.1 hl.2) J ?_)|(refine bC ?_; first|refine aM 0 J J J J J J ?_|refine aM 1 J J J J J J ?_|refine aM 2 J J J J J J ?_)|(refine h5H ?_; refine ax ab 3 J J J J J ?_)|refine aI aa J J J ?_|refine cj aa 4 J J J J J J ?_)|(refine h7H ?_; first|refine al ?_|refine ae ?_|refine aw ?_|refine am ?_|refine aZ J (by assumption) ?_)|refine ak ?_|refine ai (.inl J) J J ?_)
   all_goals first | rfl | skip
  ·have hb2 : (dd ds ats at' vs != 0) = true:=by simp [hc]
   rw [if_pos hc]
   repeat' (first|(refine h6H ?_; first|(refine h4H ?_; refine dL 40 [4] J J J J J J J J J (G8 ds ats ⟨at',vs⟩ _ (uC hck)) J J J ?_)|refine ac ?_|refine ah ab J J J J J ?_|(refine h4H ?_; refine ag J J J J J J J J (c20 _ _ _ _) J ?_)|(refine bC ?_; first|refine aM 0 J J J J J J ?_|refine aM 1 J J J J J J ?_|refine aM 2 J J J J J J ?_)|(refine h5H ?_; refine ax ab 3 J J J J J ?_)|refine aI aa J J J ?_|refine cj aa 4 J J J J J J ?_)|(refine h7H ?_; first|refine al ?_|refine ae ?_|refine aw ?_|refine am ?_|refine bv J (by assumption) ?_|refine aZ J (by assumption) ?_)|refine ak ?_|refine aC ?_|refine ai (.inl J) J J ?_)
   all_goals first | rfl | skip
 ·have hb1 : ((df ds ats cs s).2 != 0) = true:=by simp [ht]
  rw [if_pos ht]
  repeat' (first|(refine h6H ?_; first|refine ac ?_|refine ah ab J J J J J ?_|(refine h4H ?_; refine ag J J J J J J J J (c20 _ _ _ _) J ?_)|(refine bC ?_; first|refine aM 0 J J J J J J ?_|refine aM 1 J J J J J J ?_|refine aM 2 J J J J J J ?_)|(refine h5H ?_; refine ax ab 3 J J J J J ?_)|refine aI aa J J J ?_)|(refine h7H ?_; first|refine al ?_|refine ae ?_|refine am ?_|refine bv J (by assumption) ?_)|refine ak ?_|refine aC ?_|refine ai (.inl J) J J ?_)
  all_goals first | rfl | skip
end Go.Proofs.YtpejdgkaapnekaaGreat
namespace Go.Proofs.YtpejdgkaapnekaaGreat
open Go Go.Abs
attribute [local irreducible] ao OkC aU bg aV bA
set_option maxRecDepth 10000
section
variable {src : List (Int×Bool)} {c : Cell} {k : Nat}
end
end Go.Proofs.YtpejdgkaapnekaaGreat
namespace Go.Proofs.YtpejdgkaapnekaaGreat
open Go Go.Abs
attribute [local irreducible] ao OkC aU bg aV bA
set_option maxRecDepth 10000
theorem Fi{α : Type}[Inhabited α](f : α→List D)(l : List α){n : Nat}{r : List (List D)}(h : r = (l.take n).map f)(hlt : n < l.length) : r.take n ++ [f (at_ l n)] = (l.take (n + 1)).map f:=by
 rw [h]; exact CK f l hlt
section
variable {src kept : List (Int×Bool)} {ds : List Dim} {rule : Int} {c : Cell} {cs cs' l : List Cell} {x : List Int} {j : Nat}
end
end Go.Proofs.YtpejdgkaapnekaaGreat
