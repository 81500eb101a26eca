import Derived.Test.YtpejdgkaapnekaaGreatXP32
import Derived.Test.YtpejdgkaapnekaaGreatXP22
import Derived.Test.YtpejdgkaapnekaaGreatXP31
import Derived.Test.YtpejdgkaapnekaaGreatXP14
import Derived.Test.YtpejdgkaapnekaaGreatXP13
import Derived.Test.YtpejdgkaapnekaaGreatXP15
import Derived.Test.YtpejdgkaapnekaaGreatXP18
set_option linter.unusedVariables false
set_option linter.unusedSimpArgs false
set_option maxHeartbeats 1000000
namespace Go.Proofs.YtpejdgkaapnekaaGreat
open Go Go.Abs
attribute [local irreducible] ae OkC ar aA av aN
set_option maxRecDepth 10000
set_option maxHeartbeats 2000000 in
theorem I6(l : List Val)(hl : l.length = 2) : CallA Tryz.prog 187 [.one (.d (.int .i64 13)),.one (.d (aG l))] [] (cW (doF 13 l)) []:=by
 have h228 : CallA Tryz.prog 228 [.one (.d (.int .i64 13))] [] (.one (.d (.int .i64 2))) []:=fR 13
 have hlen : (((l.map ab).length : Int) != 2) = false:=by rw [List.length_map,hl]; rfl
 have hkc:=fS 13 ⟨by omega,by omega⟩ l hl
 have hsc:=fT 13 ⟨by omega,by omega⟩ l hl
 have hx : l.all aq = true→kdF 13 l = true→aK l = none→aq (at_ l 0) = true∧aq (at_ l 1) = true:=fun hr _ _=>⟨dH hr (by omega),dH hr (by omega)⟩
 by_cases hz : (at_ l 0).kind = 2
 all_goals refine enter af Tryz.func187 rfl (by decide +kernel) rfl fun hok w0 σ0 φ0 M=>?_
 all_goals clear hok
 repeat' (first|(refine h1H ?_; (refine h0H ?_; first|refine aa J J J J J J J J (h228) J ?_|refine aa J J J J J J J J (eJ _) J ?_|refine aa J J J J J J J J (hkc) J ?_|refine aa J J J J J J J J (hsc) J ?_|refine aa J J J J J J J J (l7 _ (hx (ak hq ‹decide ((k : Int) < ((l.map ab).length : Int)) = false›) (by simpa using ‹(!kdF 13 l) = false›) (aw hq1 h)).1 hz) J ?_|refine az 16 J J J J J J J J (fg _ (hx (ak hq ‹decide ((k : Int) < ((l.map ab).length : Int)) = false›) (by simpa using ‹(!kdF 13 l) = false›) (aw hq1 h)).1 hz) J J J ?_))|(refine h3H ?_; (refine h2H ?_; first|refine d_l J J (aB J J J J J J (lW _) J) ?_|refine d_l J J (aB J J J J J J (vu (at_ l 0) (at_ l 1) (hx (ak hq ‹decide ((k : Int) < ((l.map ab).length : Int)) = false›) (by simpa using ‹(!kdF 13 l) = false›) (aw hq1 h)).1 (hx (ak hq ‹decide ((k : Int) < ((l.map ab).length : Int)) = false›) (by simpa using ‹(!kdF 13 l) = false›) (aw hq1 h)).2) J) ?_))|refine wG ?_|(refine h4H ?_; first|refine ah J (fun h=>?_) (fun h=>?_)|refine aH 4 J [(0,_),(1,_),(4,_)] (q3Q J J J) (fun (k : Nat)=>[(6,.one (.d (.int .i64 (k : Int))))]) (fun (k : Nat)=>k≤l.length∧l.all aq = (l.drop k).all aq) (fun (k : Nat)=>l.length - k) 0 (q1Q J) ?_ (fun k ⟨hk0,hq⟩=>?_)|refine aH 14 J [(0,_),(1,_),(4,_)] (q3Q J J J) (fun (j : Nat)=>[(9,.one (.d (.int .i64 (j : Int))))]) (fun (j : Nat)=>j≤l.length∧aK l = aK (l.drop j)) (fun (j : Nat)=>l.length - j) 0 (q1Q J) ?_ (fun j ⟨hk1,hq1⟩=>?_))|(show Exists _; first|refine Exists.intro (j + 1) ⟨?_,?_,wK,(q1Q J),(q3Q J J J)⟩|refine Exists.intro (k + 1) ⟨?_,?_,wK,(q1Q J),(q3Q J J J)⟩))
 all_goals first
  | exact ⟨Nat.zero_le _,rfl⟩
  | exact gq (ed hq (by simpa using ‹decide ((k : Int) < ((l.map ab).length : Int)) = true›) (by rw [← ne2]; exact h))
  | (have hlt : k < l.length:=by simpa using ‹decide ((k : Int) < ((l.map ab).length : Int)) = true›
     exact ⟨hlt,ee hq hlt (by rw [← ne2]; exact h)⟩)
  | (have hlt : k < l.length:=by simpa using ‹decide ((k : Int) < ((l.map ab).length : Int)) = true›
     show l.length - (k + 1) < l.length - k
     omega)
  | exact gr (ak hq ‹decide ((k : Int) < ((l.map ab).length : Int)) = false›) h
  | exact eX (rv:=aC (tb 13 (ic (at_ l 0) (at_ l 1)))) (ak hq ‹decide ((k : Int) < ((l.map ab).length : Int)) = false›) ‹(!kdF 13 l) = false› (.inr (aw hq1 h)) rfl
  | exact jv (ak hq ‹decide ((k : Int) < ((l.map ab).length : Int)) = false›) ‹(!kdF 13 l) = false› rfl hq1 (by simpa using ‹decide ((j : Int) < ((l.map ab).length : Int)) = true›) h
  | (have hlt : j < l.length:=by simpa using ‹decide ((j : Int) < ((l.map ab).length : Int)) = true›
     exact ⟨hlt,hq1.trans (cQ hlt h)⟩)
  | (have hlt : j < l.length:=by simpa using ‹decide ((j : Int) < ((l.map ab).length : Int)) = true›
     show l.length - (j + 1) < l.length - j
     omega)
  | skip
set_option maxHeartbeats 2000000 in
theorem I7(l : List Val)(hl : l.length = 2) : CallA Tryz.prog 187 [.one (.d (.int .i64 14)),.one (.d (aG l))] [] (cW (doF 14 l)) []:=by
 have h228 : CallA Tryz.prog 228 [.one (.d (.int .i64 14))] [] (.one (.d (.int .i64 2))) []:=fR 14
 have hlen : (((l.map ab).length : Int) != 2) = false:=by rw [List.length_map,hl]; rfl
 have hkc:=fS 14 ⟨by omega,by omega⟩ l hl
 have hsc:=fT 14 ⟨by omega,by omega⟩ l hl
 have hx : l.all aq = true→kdF 14 l = true→aK l = none→aq (at_ l 0) = true∧aq (at_ l 1) = true:=fun hr _ _=>⟨dH hr (by omega),dH hr (by omega)⟩
 by_cases hz : (at_ l 0).kind = 2
 all_goals refine enter af Tryz.func187 rfl (by decide +kernel) rfl fun hok w0 σ0 φ0 M=>?_
 all_goals clear hok
 repeat' (first|(refine h1H ?_; (refine h0H ?_; first|refine aa J J J J J J J J (h228) J ?_|refine aa J J J J J J J J (eJ _) J ?_|refine aa J J J J J J J J (hkc) J ?_|refine aa J J J J J J J J (hsc) J ?_|refine aa J J J J J J J J (l7 _ (hx (ak hq ‹decide ((k : Int) < ((l.map ab).length : Int)) = false›) (by simpa using ‹(!kdF 14 l) = false›) (aw hq1 h)).1 hz) J ?_|refine az 16 J J J J J J J J (fg _ (hx (ak hq ‹decide ((k : Int) < ((l.map ab).length : Int)) = false›) (by simpa using ‹(!kdF 14 l) = false›) (aw hq1 h)).1 hz) J J J ?_))|(refine h3H ?_; (refine h2H ?_; first|refine d_l J J (aB J J J J J J (lW _) J) ?_|refine d_l J J (aB J J J J J J (vu (at_ l 0) (at_ l 1) (hx (ak hq ‹decide ((k : Int) < ((l.map ab).length : Int)) = false›) (by simpa using ‹(!kdF 14 l) = false›) (aw hq1 h)).1 (hx (ak hq ‹decide ((k : Int) < ((l.map ab).length : Int)) = false›) (by simpa using ‹(!kdF 14 l) = false›) (aw hq1 h)).2) J) ?_))|refine wG ?_|(refine h4H ?_; first|refine ah J (fun h=>?_) (fun h=>?_)|refine aH 4 J [(0,_),(1,_),(4,_)] (q3Q J J J) (fun (k : Nat)=>[(6,.one (.d (.int .i64 (k : Int))))]) (fun (k : Nat)=>k≤l.length∧l.all aq = (l.drop k).all aq) (fun (k : Nat)=>l.length - k) 0 (q1Q J) ?_ (fun k ⟨hk0,hq⟩=>?_)|refine aH 14 J [(0,_),(1,_),(4,_)] (q3Q J J J) (fun (j : Nat)=>[(9,.one (.d (.int .i64 (j : Int))))]) (fun (j : Nat)=>j≤l.length∧aK l = aK (l.drop j)) (fun (j : Nat)=>l.length - j) 0 (q1Q J) ?_ (fun j ⟨hk1,hq1⟩=>?_))|(show Exists _; first|refine Exists.intro (j + 1) ⟨?_,?_,wK,(q1Q J),(q3Q J J J)⟩|refine Exists.intro (k + 1) ⟨?_,?_,wK,(q1Q J),(q3Q J J J)⟩))
 all_goals first
  | exact ⟨Nat.zero_le _,rfl⟩
  | exact gq (ed hq (by simpa using ‹decide ((k : Int) < ((l.map ab).length : Int)) = true›) (by rw [← ne2]; exact h))
  | (have hlt : k < l.length:=by simpa using ‹decide ((k : Int) < ((l.map ab).length : Int)) = true›
     exact ⟨hlt,ee hq hlt (by rw [← ne2]; exact h)⟩)
  | (have hlt : k < l.length:=by simpa using ‹decide ((k : Int) < ((l.map ab).length : Int)) = true›
     show l.length - (k + 1) < l.length - k
     omega)
  | exact gr (ak hq ‹decide ((k : Int) < ((l.map ab).length : Int)) = false›) h
  | exact eX (rv:=aC (tb 14 (ic (at_ l 0) (at_ l 1)))) (ak hq ‹decide ((k : Int) < ((l.map ab).length : Int)) = false›) ‹(!kdF 14 l) = false› (.inr (aw hq1 h)) rfl
  | exact jv (ak hq ‹decide ((k : Int) < ((l.map ab).length : Int)) = false›) ‹(!kdF 14 l) = false› rfl hq1 (by simpa using ‹decide ((j : Int) < ((l.map ab).length : Int)) = true›) h
  | (have hlt : j < l.length:=by simpa using ‹decide ((j : Int) < ((l.map ab).length : Int)) = true›
     exact ⟨hlt,hq1.trans (cQ hlt h)⟩)
  | (have hlt : j < l.length:=by simpa using ‹decide ((j : Int) < ((l.map ab).length : Int)) = true›
     show l.length - (j + 1) < l.length - j
     omega)
  | skip
set_option maxHeartbeats 2000000 in
theorem I8(l : List Val)(hl : l.length = 2) : CallA Tryz.prog 187 [.one (.d (.int .i64 15)),.one (.d (aG l))] [] (cW (doF 15 l)) []:=by
 have h228 : CallA Tryz.prog 228 [.one (.d (.int .i64 15))] [] (.one (.d (.int .i64 2))) []:=fR 15
 have hlen : (((l.map ab).length : Int) != 2) = false:=by rw [List.length_map,hl]; rfl
 have hkc:=fS 15 ⟨by omega,by omega⟩ l hl
 have hsc:=fT 15 ⟨by omega,by omega⟩ l hl
 have hx : l.all aq = true→kdF 15 l = true→aK l = none→aq (at_ l 0) = true∧aq (at_ l 1) = true:=fun hr _ _=>⟨dH hr (by omega),dH hr (by omega)⟩
 by_cases hz : (at_ l 0).kind = 2
 all_goals refine enter af Tryz.func187 rfl (by decide +kernel) rfl fun hok w0 σ0 φ0 M=>?_
 all_goals clear hok
 repeat' (first|(refine h1H ?_; (refine h0H ?_; first|refine aa J J J J J J J J (h228) J ?_|refine aa J J J J J J J J (eJ _) J ?_|refine aa J J J J J J J J (hkc) J ?_|refine aa J J J J J J J J (hsc) J ?_|refine aa J J J J J J J J (l7 _ (hx (ak hq ‹decide ((k : Int) < ((l.map ab).length : Int)) = false›) (by simpa using ‹(!kdF 15 l) = false›) (aw hq1 h)).1 hz) J ?_|refine az 16 J J J J J J J J (fg _ (hx (ak hq ‹decide ((k : Int) < ((l.map ab).length : Int)) = false›) (by simpa using ‹(!kdF 15 l) = false›) (aw hq1 h)).1 hz) J J J ?_))|(refine h3H ?_; (refine h2H ?_; first|refine d_l J J (aB J J J J J J (lW _) J) ?_|refine d_l J J (aB J J J J J J (vu (at_ l 0) (at_ l 1) (hx (ak hq ‹decide ((k : Int) < ((l.map ab).length : Int)) = false›) (by simpa using ‹(!kdF 15 l) = false›) (aw hq1 h)).1 (hx (ak hq ‹decide ((k : Int) < ((l.map ab).length : Int)) = false›) (by simpa using ‹(!kdF 15 l) = false›) (aw hq1 h)).2) J) ?_))|refine wG ?_|(refine h4H ?_; first|refine ah J (fun h=>?_) (fun h=>?_)|refine aH 4 J [(0,_),(1,_),(4,_)] (q3Q J J J) (fun (k : Nat)=>[(6,.one (.d (.int .i64 (k : Int))))]) (fun (k : Nat)=>k≤l.length∧l.all aq = (l.drop k).all aq) (fun (k : Nat)=>l.length - k) 0 (q1Q J) ?_ (fun k ⟨hk0,hq⟩=>?_)|refine aH 14 J [(0,_),(1,_),(4,_)] (q3Q J J J) (fun (j : Nat)=>[(9,.one (.d (.int .i64 (j : Int))))]) (fun (j : Nat)=>j≤l.length∧aK l = aK (l.drop j)) (fun (j : Nat)=>l.length - j) 0 (q1Q J) ?_ (fun j ⟨hk1,hq1⟩=>?_))|(show Exists _; first|refine Exists.intro (j + 1) ⟨?_,?_,wK,(q1Q J),(q3Q J J J)⟩|refine Exists.intro (k + 1) ⟨?_,?_,wK,(q1Q J),(q3Q J J J)⟩))
 all_goals first
  | exact ⟨Nat.zero_le _,rfl⟩
  | exact gq (ed hq (by simpa using ‹decide ((k : Int) < ((l.map ab).length : Int)) = true›) (by rw [← ne2]; exact h))
  | (have hlt : k < l.length:=by simpa using ‹decide ((k : Int) < ((l.map ab).length : Int)) = true›
     exact ⟨hlt,ee hq hlt (by rw [← ne2]; exact h)⟩)
  | (have hlt : k < l.length:=by simpa using ‹decide ((k : Int) < ((l.map ab).length : Int)) = true›
     show l.length - (k + 1) < l.length - k
     omega)
  | exact gr (ak hq ‹decide ((k : Int) < ((l.map ab).length : Int)) = false›) h
  | exact eX (rv:=aC (tb 15 (ic (at_ l 0) (at_ l 1)))) (ak hq ‹decide ((k : Int) < ((l.map ab).length : Int)) = false›) ‹(!kdF 15 l) = false› (.inr (aw hq1 h)) rfl
  | exact jv (ak hq ‹decide ((k : Int) < ((l.map ab).length : Int)) = false›) ‹(!kdF 15 l) = false› rfl hq1 (by simpa using ‹decide ((j : Int) < ((l.map ab).length : Int)) = true›) h
  | (have hlt : j < l.length:=by simpa using ‹decide ((j : Int) < ((l.map ab).length : Int)) = true›
     exact ⟨hlt,hq1.trans (cQ hlt h)⟩)
  | (have hlt : j < l.length:=by simpa using ‹decide ((j : Int) < ((l.map ab).length : Int)) = true›
     show l.length - (j + 1) < l.length - j
     omega)
  | skip
set_option maxHeartbeats 2000000 in
theorem I9(l : List Val)(hl : l.length = 2) : CallA Tryz.prog 187 [.one (.d (.int .i64 16)),.one (.d (aG l))] [] (cW (doF 16 l)) []:=by
 have h228 : CallA Tryz.prog 228 [.one (.d (.int .i64 16))] [] (.one (.d (.int .i64 2))) []:=fR 16
 have hlen : (((l.map ab).length : Int) != 2) = false:=by rw [List.length_map,hl]; rfl
 have hkc:=fS 16 ⟨by omega,by omega⟩ l hl
 have hsc:=fT 16 ⟨by omega,by omega⟩ l hl
 have hx : l.all aq = true→kdF 16 l = true→aK l = none→aq (at_ l 0) = true∧aq (at_ l 1) = true:=fun hr _ _=>⟨dH hr (by omega),dH hr (by omega)⟩
 by_cases hz : (at_ l 0).kind = 2
 all_goals refine enter af Tryz.func187 rfl (by decide +kernel) rfl fun hok w0 σ0 φ0 M=>?_
 all_goals clear hok
 repeat' (first|(refine h1H ?_; (refine h0H ?_; first|refine aa J J J J J J J J (h228) J ?_|refine aa J J J J J J J J (eJ _) J ?_|refine aa J J J J J J J J (hkc) J ?_|refine aa J J J J J J J J (hsc) J ?_|refine aa J J J J J J J J (l7 _ (hx (ak hq ‹decide ((k : Int) < ((l.map ab).length : Int)) = false›) (by simpa using ‹(!kdF 16 l) = false›) (aw hq1 h)).1 hz) J ?_|refine az 16 J J J J J J J J (fg _ (hx (ak hq ‹decide ((k : Int) < ((l.map ab).length : Int)) = false›) (by simpa using ‹(!kdF 16 l) = false›) (aw hq1 h)).1 hz) J J J ?_))|(refine h3H ?_; (refine h2H ?_; first|refine d_l J J (aB J J J J J J (lW _) J) ?_|refine d_l J J (aB J J J J J J (vu (at_ l 0) (at_ l 1) (hx (ak hq ‹decide ((k : Int) < ((l.map ab).length : Int)) = false›) (by simpa using ‹(!kdF 16 l) = false›) (aw hq1 h)).1 (hx (ak hq ‹decide ((k : Int) < ((l.map ab).length : Int)) = false›) (by simpa using ‹(!kdF 16 l) = false›) (aw hq1 h)).2) J) ?_))|refine wG ?_|(refine h4H ?_; first|refine ah J (fun h=>?_) (fun h=>?_)|refine aH 4 J [(0,_),(1,_),(4,_)] (q3Q J J J) (fun (k : Nat)=>[(6,.one (.d (.int .i64 (k : Int))))]) (fun (k : Nat)=>k≤l.length∧l.all aq = (l.drop k).all aq) (fun (k : Nat)=>l.length - k) 0 (q1Q J) ?_ (fun k ⟨hk0,hq⟩=>?_)|refine aH 14 J [(0,_),(1,_),(4,_)] (q3Q J J J) (fun (j : Nat)=>[(9,.one (.d (.int .i64 (j : Int))))]) (fun (j : Nat)=>j≤l.length∧aK l = aK (l.drop j)) (fun (j : Nat)=>l.length - j) 0 (q1Q J) ?_ (fun j ⟨hk1,hq1⟩=>?_))|(show Exists _; first|refine Exists.intro (j + 1) ⟨?_,?_,wK,(q1Q J),(q3Q J J J)⟩|refine Exists.intro (k + 1) ⟨?_,?_,wK,(q1Q J),(q3Q J J J)⟩))
 all_goals first
  | exact ⟨Nat.zero_le _,rfl⟩
  | exact gq (ed hq (by simpa using ‹decide ((k : Int) < ((l.map ab).length : Int)) = true›) (by rw [← ne2]; exact h))
  | (have hlt : k < l.length:=by simpa using ‹decide ((k : Int) < ((l.map ab).length : Int)) = true›
     exact ⟨hlt,ee hq hlt (by rw [← ne2]; exact h)⟩)
  | (have hlt : k < l.length:=by simpa using ‹decide ((k : Int) < ((l.map ab).length : Int)) = true›
     show l.length - (k + 1) < l.length - k
     omega)
  | exact gr (ak hq ‹decide ((k : Int) < ((l.map ab).length : Int)) = false›) h
  | exact eX (rv:=aC (tb 16 (ic (at_ l 0) (at_ l 1)))) (ak hq ‹decide ((k : Int) < ((l.map ab).length : Int)) = false›) ‹(!kdF 16 l) = false› (.inr (aw hq1 h)) rfl
  | exact jv (ak hq ‹decide ((k : Int) < ((l.map ab).length : Int)) = false›) ‹(!kdF 16 l) = false› rfl hq1 (by simpa using ‹decide ((j : Int) < ((l.map ab).length : Int)) = true›) h
  | (have hlt : j < l.length:=by simpa using ‹decide ((j : Int) < ((l.map ab).length : Int)) = true›
     exact ⟨hlt,hq1.trans (cQ hlt h)⟩)
  | (have hlt : j < l.length:=by simpa using ‹decide ((j : Int) < ((l.map ab).length : Int)) = true›
     show l.length - (j + 1) < l.length - j
     omega)
  | skip
set_option maxHeartbeats 2000000 in
theorem Ja(l : List Val)(hl : l.length = 2) : CallA Tryz.prog 187 [.one (.d (.int .i64 17)),.one (.d (aG l))] [] (cW (doF 17 l)) []:=by
 have h228 : CallA Tryz.prog 228 [.one (.d (.int .i64 17))] [] (.one (.d (.int .i64 2))) []:=fR 17
 have hlen : (((l.map ab).length : Int) != 2) = false:=by rw [List.length_map,hl]; rfl
 have hkc:=fS 17 ⟨by omega,by omega⟩ l hl
 have hsc:=fT 17 ⟨by omega,by omega⟩ l hl
 have hx : l.all aq = true→kdF 17 l = true→aK l = none→aq (at_ l 0) = true∧aq (at_ l 1) = true:=fun hr _ _=>⟨dH hr (by omega),dH hr (by omega)⟩
 by_cases hz : (at_ l 0).kind = 2
 all_goals refine enter af Tryz.func187 rfl (by decide +kernel) rfl fun hok w0 σ0 φ0 M=>?_
 all_goals clear hok
 repeat' (first|(refine h1H ?_; (refine h0H ?_; first|refine aa J J J J J J J J (h228) J ?_|refine aa J J J J J J J J (eJ _) J ?_|refine aa J J J J J J J J (hkc) J ?_|refine aa J J J J J J J J (hsc) J ?_|refine aa J J J J J J J J (l7 _ (hx (ak hq ‹decide ((k : Int) < ((l.map ab).length : Int)) = false›) (by simpa using ‹(!kdF 17 l) = false›) (aw hq1 h)).1 hz) J ?_|refine az 16 J J J J J J J J (fg _ (hx (ak hq ‹decide ((k : Int) < ((l.map ab).length : Int)) = false›) (by simpa using ‹(!kdF 17 l) = false›) (aw hq1 h)).1 hz) J J J ?_))|(refine h3H ?_; (refine h2H ?_; first|refine d_l J J (aB J J J J J J (lW _) J) ?_|refine d_l J J (aB J J J J J J (vu (at_ l 0) (at_ l 1) (hx (ak hq ‹decide ((k : Int) < ((l.map ab).length : Int)) = false›) (by simpa using ‹(!kdF 17 l) = false›) (aw hq1 h)).1 (hx (ak hq ‹decide ((k : Int) < ((l.map ab).length : Int)) = false›) (by simpa using ‹(!kdF 17 l) = false›) (aw hq1 h)).2) J) ?_))|refine wG ?_|(refine h4H ?_; first|refine ah J (fun h=>?_) (fun h=>?_)|refine aH 4 J [(0,_),(1,_),(4,_)] (q3Q J J J) (fun (k : Nat)=>[(6,.one (.d (.int .i64 (k : Int))))]) (fun (k : Nat)=>k≤l.length∧l.all aq = (l.drop k).all aq) (fun (k : Nat)=>l.length - k) 0 (q1Q J) ?_ (fun k ⟨hk0,hq⟩=>?_)|refine aH 14 J [(0,_),(1,_),(4,_)] (q3Q J J J) (fun (j : Nat)=>[(9,.one (.d (.int .i64 (j : Int))))]) (fun (j : Nat)=>j≤l.length∧aK l = aK (l.drop j)) (fun (j : Nat)=>l.length - j) 0 (q1Q J) ?_ (fun j ⟨hk1,hq1⟩=>?_))|(show Exists _; first|refine Exists.intro (j + 1) ⟨?_,?_,wK,(q1Q J),(q3Q J J J)⟩|refine Exists.intro (k + 1) ⟨?_,?_,wK,(q1Q J),(q3Q J J J)⟩))
 all_goals first
  | exact ⟨Nat.zero_le _,rfl⟩
  | exact gq (ed hq (by simpa using ‹decide ((k : Int) < ((l.map ab).length : Int)) = true›) (by rw [← ne2]; exact h))
  | (have hlt : k < l.length:=by simpa using ‹decide ((k : Int) < ((l.map ab).length : Int)) = true›
     exact ⟨hlt,ee hq hlt (by rw [← ne2]; exact h)⟩)
  | (have hlt : k < l.length:=by simpa using ‹decide ((k : Int) < ((l.map ab).length : Int)) = true›
     show l.length - (k + 1) < l.length - k
     omega)
  | exact gr (ak hq ‹decide ((k : Int) < ((l.map ab).length : Int)) = false›) h
  | exact eX (rv:=aC (tb 17 (ic (at_ l 0) (at_ l 1)))) (ak hq ‹decide ((k : Int) < ((l.map ab).length : Int)) = false›) ‹(!kdF 17 l) = false› (.inr (aw hq1 h)) rfl
  | exact jv (ak hq ‹decide ((k : Int) < ((l.map ab).length : Int)) = false›) ‹(!kdF 17 l) = false› rfl hq1 (by simpa using ‹decide ((j : Int) < ((l.map ab).length : Int)) = true›) h
  | (have hlt : j < l.length:=by simpa using ‹decide ((j : Int) < ((l.map ab).length : Int)) = true›
     exact ⟨hlt,hq1.trans (cQ hlt h)⟩)
  | (have hlt : j < l.length:=by simpa using ‹decide ((j : Int) < ((l.map ab).length : Int)) = true›
     show l.length - (j + 1) < l.length - j
     omega)
  | skip
set_option maxHeartbeats 2000000 in
theorem Jb(l : List Val)(hl : l.length = 2) : CallA Tryz.prog 187 [.one (.d (.int .i64 18)),.one (.d (aG l))] [] (cW (doF 18 l)) []:=by
 have h228 : CallA Tryz.prog 228 [.one (.d (.int .i64 18))] [] (.one (.d (.int .i64 2))) []:=fR 18
 have hlen : (((l.map ab).length : Int) != 2) = false:=by rw [List.length_map,hl]; rfl
 have hkc:=fS 18 ⟨by omega,by omega⟩ l hl
 have hsc:=fT 18 ⟨by omega,by omega⟩ l hl
 have hx : l.all aq = true→kdF 18 l = true→aK l = none→aq (at_ l 0) = true∧aq (at_ l 1) = true:=fun hr _ _=>⟨dH hr (by omega),dH hr (by omega)⟩
 by_cases hz : (at_ l 0).kind = 2
 all_goals refine enter af Tryz.func187 rfl (by decide +kernel) rfl fun hok w0 σ0 φ0 M=>?_
 all_goals clear hok
 repeat' (first|(refine h1H ?_; (refine h0H ?_; first|refine aa J J J J J J J J (h228) J ?_|refine aa J J J J J J J J (eJ _) J ?_|refine aa J J J J J J J J (hkc) J ?_|refine aa J J J J J J J J (hsc) J ?_|refine aa J J J J J J J J (l7 _ (hx (ak hq ‹decide ((k : Int) < ((l.map ab).length : Int)) = false›) (by simpa using ‹(!kdF 18 l) = false›) (aw hq1 h)).1 hz) J ?_|refine az 16 J J J J J J J J (fg _ (hx (ak hq ‹decide ((k : Int) < ((l.map ab).length : Int)) = false›) (by simpa using ‹(!kdF 18 l) = false›) (aw hq1 h)).1 hz) J J J ?_))|(refine h3H ?_; (refine h2H ?_; first|refine d_l J J (aB J J J J J J (lW _) J) ?_|refine d_l J J (aB J J J J J J (vu (at_ l 0) (at_ l 1) (hx (ak hq ‹decide ((k : Int) < ((l.map ab).length : Int)) = false›) (by simpa using ‹(!kdF 18 l) = false›) (aw hq1 h)).1 (hx (ak hq ‹decide ((k : Int) < ((l.map ab).length : Int)) = false›) (by simpa using ‹(!kdF 18 l) = false›) (aw hq1 h)).2) J) ?_))|refine wG ?_|(refine h4H ?_; first|refine ah J (fun h=>?_) (fun h=>?_)|refine aH 4 J [(0,_),(1,_),(4,_)] (q3Q J J J) (fun (k : Nat)=>[(6,.one (.d (.int .i64 (k : Int))))]) (fun (k : Nat)=>k≤l.length∧l.all aq = (l.drop k).all aq) (fun (k : Nat)=>l.length - k) 0 (q1Q J) ?_ (fun k ⟨hk0,hq⟩=>?_)|refine aH 14 J [(0,_),(1,_),(4,_)] (q3Q J J J) (fun (j : Nat)=>[(9,.one (.d (.int .i64 (j : Int))))]) (fun (j : Nat)=>j≤l.length∧aK l = aK (l.drop j)) (fun (j : Nat)=>l.length - j) 0 (q1Q J) ?_ (fun j ⟨hk1,hq1⟩=>?_))|(show Exists _; first|refine Exists.intro (j + 1) ⟨?_,?_,wK,(q1Q J),(q3Q J J J)⟩|refine Exists.intro (k + 1) ⟨?_,?_,wK,(q1Q J),(q3Q J J J)⟩))
 all_goals first
  | exact ⟨Nat.zero_le _,rfl⟩
  | exact gq (ed hq (by simpa using ‹decide ((k : Int) < ((l.map ab).length : Int)) = true›) (by rw [← ne2]; exact h))
  | (have hlt : k < l.length:=by simpa using ‹decide ((k : Int) < ((l.map ab).length : Int)) = true›
     exact ⟨hlt,ee hq hlt (by rw [← ne2]; exact h)⟩)
  | (have hlt : k < l.length:=by simpa using ‹decide ((k : Int) < ((l.map ab).length : Int)) = true›
     show l.length - (k + 1) < l.length - k
     omega)
  | exact gr (ak hq ‹decide ((k : Int) < ((l.map ab).length : Int)) = false›) h
  | exact eX (rv:=aC (tb 18 (ic (at_ l 0) (at_ l 1)))) (ak hq ‹decide ((k : Int) < ((l.map ab).length : Int)) = false›) ‹(!kdF 18 l) = false› (.inr (aw hq1 h)) rfl
  | exact jv (ak hq ‹decide ((k : Int) < ((l.map ab).length : Int)) = false›) ‹(!kdF 18 l) = false› rfl hq1 (by simpa using ‹decide ((j : Int) < ((l.map ab).length : Int)) = true›) h
  | (have hlt : j < l.length:=by simpa using ‹decide ((j : Int) < ((l.map ab).length : Int)) = true›
     exact ⟨hlt,hq1.trans (cQ hlt h)⟩)
  | (have hlt : j < l.length:=by simpa using ‹decide ((j : Int) < ((l.map ab).length : Int)) = true›
     show l.length - (j + 1) < l.length - j
     omega)
  | skip
set_option maxHeartbeats 2000000 in
theorem Jn(l : List Val)(hl : l.length = 2) : CallA Tryz.prog 187 [.one (.d (.int .i64 19)),.one (.d (aG l))] [] (cW (doF 19 l)) []:=by
 have h228 : CallA Tryz.prog 228 [.one (.d (.int .i64 19))] [] (.one (.d (.int .i64 2))) []:=fR 19
 have hlen : (((l.map ab).length : Int) != 2) = false:=by rw [List.length_map,hl]; rfl
 have hkc:=fS 19 ⟨by omega,by omega⟩ l hl
 have hsc:=fT 19 ⟨by omega,by omega⟩ l hl
 have hx : l.all aq = true→kdF 19 l = true→aK l = none→aq (at_ l 0) = true∧(at_ l 0).kind = 1:=fun hr hk hm=>kd1 (op:=0) hr hk hm (by omega)
 all_goals refine enter af Tryz.func187 rfl (by decide +kernel) rfl fun hok w0 σ0 φ0 M=>?_
 all_goals clear hok
 repeat' (first|(refine h1H ?_; (refine h0H ?_; first|refine aa J J J J J J J J (h228) J ?_|refine aa J J J J J J J J (eJ _) J ?_|refine aa J J J J J J J J (hkc) J ?_|refine aa J J J J J J J J (hsc) J ?_|refine aa J J J J J J J J (lW _) J ?_|refine aa J J J J J J J J (l7 _ (hx (ak hq ‹decide ((k : Int) < ((l.map ab).length : Int)) = false›) (by simpa using ‹(!kdF 19 l) = false›) (aw hq1 h)).1 (zm (hx (ak hq ‹decide ((k : Int) < ((l.map ab).length : Int)) = false›) (by simpa using ‹(!kdF 19 l) = false›) (aw hq1 h)).2)) J ?_))|refine wG ?_|(refine h4H ?_; first|refine ah J (fun h=>?_) (fun h=>?_)|refine aH 4 J [(0,_),(1,_),(4,_)] (q3Q J J J) (fun (k : Nat)=>[(6,.one (.d (.int .i64 (k : Int))))]) (fun (k : Nat)=>k≤l.length∧l.all aq = (l.drop k).all aq) (fun (k : Nat)=>l.length - k) 0 (q1Q J) ?_ (fun k ⟨hk0,hq⟩=>?_)|refine aH 14 J [(0,_),(1,_),(4,_)] (q3Q J J J) (fun (j : Nat)=>[(9,.one (.d (.int .i64 (j : Int))))]) (fun (j : Nat)=>j≤l.length∧aK l = aK (l.drop j)) (fun (j : Nat)=>l.length - j) 0 (q1Q J) ?_ (fun j ⟨hk1,hq1⟩=>?_))|(show Exists _; first|refine Exists.intro (j + 1) ⟨?_,?_,wK,(q1Q J),(q3Q J J J)⟩|refine Exists.intro (k + 1) ⟨?_,?_,wK,(q1Q J),(q3Q J J J)⟩))
 all_goals first
  | exact ⟨Nat.zero_le _,rfl⟩
  | exact gq (ed hq (by simpa using ‹decide ((k : Int) < ((l.map ab).length : Int)) = true›) (by rw [← ne2]; exact h))
  | (have hlt : k < l.length:=by simpa using ‹decide ((k : Int) < ((l.map ab).length : Int)) = true›
     exact ⟨hlt,ee hq hlt (by rw [← ne2]; exact h)⟩)
  | (have hlt : k < l.length:=by simpa using ‹decide ((k : Int) < ((l.map ab).length : Int)) = true›
     show l.length - (k + 1) < l.length - k
     omega)
  | exact gr (ak hq ‹decide ((k : Int) < ((l.map ab).length : Int)) = false›) h
  | exact eX (rv:=aC false) (ak hq ‹decide ((k : Int) < ((l.map ab).length : Int)) = false›) ‹(!kdF 19 l) = false› (.inl rfl) (zn h)
  | exact Fy (b:=false) (by simp) (ak hq ‹decide ((k : Int) < ((l.map ab).length : Int)) = false›) ‹(!kdF 19 l) = false› ‹(bB (at_ l 0) (aC false) || bB (at_ l 1) (aC false)) = false› hq1 (by simpa using ‹decide ((j : Int) < ((l.map ab).length : Int)) = true›) h
  | exact eX (rv:=aC true) (ak hq ‹decide ((k : Int) < ((l.map ab).length : Int)) = false›) ‹(!kdF 19 l) = false› (.inl rfl) ((by rw [(aw hq1 h)]; rfl : aC true = (aK l).getD (aC (!false))).trans (qI ‹(bB (at_ l 0) (aC false) || bB (at_ l 1) (aC false)) = false›))
  | exact jv (ak hq ‹decide ((k : Int) < ((l.map ab).length : Int)) = false›) ‹(!kdF 19 l) = false› rfl hq1 (by simpa using ‹decide ((j : Int) < ((l.map ab).length : Int)) = true›) h
  | (have hlt : j < l.length:=by simpa using ‹decide ((j : Int) < ((l.map ab).length : Int)) = true›
     exact ⟨hlt,hq1.trans (cQ hlt h)⟩)
  | (have hlt : j < l.length:=by simpa using ‹decide ((j : Int) < ((l.map ab).length : Int)) = true›
     show l.length - (j + 1) < l.length - j
     omega)
  | skip
set_option maxHeartbeats 2000000 in
theorem Jo(l : List Val)(hl : l.length = 2) : CallA Tryz.prog 187 [.one (.d (.int .i64 20)),.one (.d (aG l))] [] (cW (doF 20 l)) []:=by
 have h228 : CallA Tryz.prog 228 [.one (.d (.int .i64 20))] [] (.one (.d (.int .i64 2))) []:=fR 20
 have hlen : (((l.map ab).length : Int) != 2) = false:=by rw [List.length_map,hl]; rfl
 have hkc:=fS 20 ⟨by omega,by omega⟩ l hl
 have hsc:=fT 20 ⟨by omega,by omega⟩ l hl
 have hx : l.all aq = true→kdF 20 l = true→aK l = none→aq (at_ l 0) = true∧(at_ l 0).kind = 1:=fun hr hk hm=>kd1 (op:=0) hr hk hm (by omega)
 all_goals refine enter af Tryz.func187 rfl (by decide +kernel) rfl fun hok w0 σ0 φ0 M=>?_
 all_goals clear hok
 repeat' (first|(refine h1H ?_; (refine h0H ?_; first|refine aa J J J J J J J J (h228) J ?_|refine aa J J J J J J J J (eJ _) J ?_|refine aa J J J J J J J J (hkc) J ?_|refine aa J J J J J J J J (hsc) J ?_|refine aa J J J J J J J J (lW _) J ?_|refine aa J J J J J J J J (l7 _ (hx (ak hq ‹decide ((k : Int) < ((l.map ab).length : Int)) = false›) (by simpa using ‹(!kdF 20 l) = false›) (aw hq1 h)).1 (zm (hx (ak hq ‹decide ((k : Int) < ((l.map ab).length : Int)) = false›) (by simpa using ‹(!kdF 20 l) = false›) (aw hq1 h)).2)) J ?_))|refine wG ?_|(refine h4H ?_; first|refine ah J (fun h=>?_) (fun h=>?_)|refine aH 4 J [(0,_),(1,_),(4,_)] (q3Q J J J) (fun (k : Nat)=>[(6,.one (.d (.int .i64 (k : Int))))]) (fun (k : Nat)=>k≤l.length∧l.all aq = (l.drop k).all aq) (fun (k : Nat)=>l.length - k) 0 (q1Q J) ?_ (fun k ⟨hk0,hq⟩=>?_)|refine aH 14 J [(0,_),(1,_),(4,_)] (q3Q J J J) (fun (j : Nat)=>[(9,.one (.d (.int .i64 (j : Int))))]) (fun (j : Nat)=>j≤l.length∧aK l = aK (l.drop j)) (fun (j : Nat)=>l.length - j) 0 (q1Q J) ?_ (fun j ⟨hk1,hq1⟩=>?_))|(show Exists _; first|refine Exists.intro (j + 1) ⟨?_,?_,wK,(q1Q J),(q3Q J J J)⟩|refine Exists.intro (k + 1) ⟨?_,?_,wK,(q1Q J),(q3Q J J J)⟩))
 all_goals first
  | exact ⟨Nat.zero_le _,rfl⟩
  | exact gq (ed hq (by simpa using ‹decide ((k : Int) < ((l.map ab).length : Int)) = true›) (by rw [← ne2]; exact h))
  | (have hlt : k < l.length:=by simpa using ‹decide ((k : Int) < ((l.map ab).length : Int)) = true›
     exact ⟨hlt,ee hq hlt (by rw [← ne2]; exact h)⟩)
  | (have hlt : k < l.length:=by simpa using ‹decide ((k : Int) < ((l.map ab).length : Int)) = true›
     show l.length - (k + 1) < l.length - k
     omega)
  | exact gr (ak hq ‹decide ((k : Int) < ((l.map ab).length : Int)) = false›) h
  | exact eX (rv:=aC true) (ak hq ‹decide ((k : Int) < ((l.map ab).length : Int)) = false›) ‹(!kdF 20 l) = false› (.inl rfl) (zn h)
  | exact Fy (b:=true) (by simp) (ak hq ‹decide ((k : Int) < ((l.map ab).length : Int)) = false›) ‹(!kdF 20 l) = false› ‹(bB (at_ l 0) (aC true) || bB (at_ l 1) (aC true)) = false› hq1 (by simpa using ‹decide ((j : Int) < ((l.map ab).length : Int)) = true›) h
  | exact eX (rv:=aC false) (ak hq ‹decide ((k : Int) < ((l.map ab).length : Int)) = false›) ‹(!kdF 20 l) = false› (.inl rfl) ((by rw [(aw hq1 h)]; rfl : aC false = (aK l).getD (aC (!true))).trans (qI ‹(bB (at_ l 0) (aC true) || bB (at_ l 1) (aC true)) = false›))
  | exact jv (ak hq ‹decide ((k : Int) < ((l.map ab).length : Int)) = false›) ‹(!kdF 20 l) = false› rfl hq1 (by simpa using ‹decide ((j : Int) < ((l.map ab).length : Int)) = true›) h
  | (have hlt : j < l.length:=by simpa using ‹decide ((j : Int) < ((l.map ab).length : Int)) = true›
     exact ⟨hlt,hq1.trans (cQ hlt h)⟩)
  | (have hlt : j < l.length:=by simpa using ‹decide ((j : Int) < ((l.map ab).length : Int)) = true›
     show l.length - (j + 1) < l.length - j
     omega)
  | skip
set_option maxHeartbeats 2000000 in
theorem Jp(l : List Val)(hl : l.length = 2) : CallA Tryz.prog 187 [.one (.d (.int .i64 21)),.one (.d (aG l))] [] (cW (doF 21 l)) []:=by
 have h228 : CallA Tryz.prog 228 [.one (.d (.int .i64 21))] [] (.one (.d (.int .i64 2))) []:=fR 21
 have hlen : (((l.map ab).length : Int) != 2) = false:=by rw [List.length_map,hl]; rfl
 have hkc:=fS 21 ⟨by omega,by omega⟩ l hl
 have hsc:=fT 21 ⟨by omega,by omega⟩ l hl
 all_goals refine enter af Tryz.func187 rfl (by decide +kernel) rfl fun hok w0 σ0 φ0 M=>?_
 all_goals clear hok
 repeat' (first|(refine h1H ?_; (refine h0H ?_; first|refine aa J J J J J J J J (h228) J ?_|refine aa J J J J J J J J (eJ _) J ?_|refine aa J J J J J J J J (hkc) J ?_|refine aa J J J J J J J J (hsc) J ?_))|refine wG ?_|(refine h4H ?_; first|refine ah J (fun h=>?_) (fun h=>?_)|refine aH 4 J [(0,_),(1,_),(4,_)] (q3Q J J J) (fun (k : Nat)=>[(6,.one (.d (.int .i64 (k : Int))))]) (fun (k : Nat)=>k≤l.length∧l.all aq = (l.drop k).all aq) (fun (k : Nat)=>l.length - k) 0 (q1Q J) ?_ (fun k ⟨hk0,hq⟩=>?_))|(show Exists _; refine Exists.intro (k + 1) ⟨?_,?_,wK,(q1Q J),(q3Q J J J)⟩))
 all_goals first
  | exact ⟨Nat.zero_le _,rfl⟩
  | exact gq (ed hq (by simpa using ‹decide ((k : Int) < ((l.map ab).length : Int)) = true›) (by rw [← ne2]; exact h))
  | (have hlt : k < l.length:=by simpa using ‹decide ((k : Int) < ((l.map ab).length : Int)) = true›
     exact ⟨hlt,ee hq hlt (by rw [← ne2]; exact h)⟩)
  | (have hlt : k < l.length:=by simpa using ‹decide ((k : Int) < ((l.map ab).length : Int)) = true›
     show l.length - (k + 1) < l.length - k
     omega)
  | exact gr (ak hq ‹decide ((k : Int) < ((l.map ab).length : Int)) = false›) h
  | exact eX (rv:=(nA 21 l).1) (ak hq ‹decide ((k : Int) < ((l.map ab).length : Int)) = false›) ‹(!kdF 21 l) = false› (.inl rfl) rfl
  | skip
set_option maxHeartbeats 2000000 in
theorem Jz(l : List Val)(hl : l.length = 3) : CallA Tryz.prog 187 [.one (.d (.int .i64 22)),.one (.d (aG l))] [] (cW (doF 22 l)) []:=by
 have h228 : CallA Tryz.prog 228 [.one (.d (.int .i64 22))] [] (.one (.d (.int .i64 3))) []:=fR 22
 have hlen : (((l.map ab).length : Int) != 3) = false:=by rw [List.length_map,hl]; rfl
 have hkc:=LQ l hl
 have hsc:=Mp l hl
 all_goals refine enter af Tryz.func187 rfl (by decide +kernel) rfl fun hok w0 σ0 φ0 M=>?_
 all_goals clear hok
 repeat' (first|(refine h1H ?_; (refine h0H ?_; first|refine aa J J J J J J J J (h228) J ?_|refine aa J J J J J J J J (eJ _) J ?_|refine aa J J J J J J J J (hkc) J ?_|refine aa J J J J J J J J (hsc) J ?_))|refine wG ?_|(refine h4H ?_; first|refine ah J (fun h=>?_) (fun h=>?_)|refine aH 4 J [(0,_),(1,_),(4,_)] (q3Q J J J) (fun (k : Nat)=>[(6,.one (.d (.int .i64 (k : Int))))]) (fun (k : Nat)=>k≤l.length∧l.all aq = (l.drop k).all aq) (fun (k : Nat)=>l.length - k) 0 (q1Q J) ?_ (fun k ⟨hk0,hq⟩=>?_))|(show Exists _; refine Exists.intro (k + 1) ⟨?_,?_,wK,(q1Q J),(q3Q J J J)⟩))
 all_goals first
  | exact ⟨Nat.zero_le _,rfl⟩
  | exact gq (ed hq (by simpa using ‹decide ((k : Int) < ((l.map ab).length : Int)) = true›) (by rw [← ne2]; exact h))
  | (have hlt : k < l.length:=by simpa using ‹decide ((k : Int) < ((l.map ab).length : Int)) = true›
     exact ⟨hlt,ee hq hlt (by rw [← ne2]; exact h)⟩)
  | (have hlt : k < l.length:=by simpa using ‹decide ((k : Int) < ((l.map ab).length : Int)) = true›
     show l.length - (k + 1) < l.length - k
     omega)
  | exact gr (ak hq ‹decide ((k : Int) < ((l.map ab).length : Int)) = false›) h
  | exact eX (rv:=(nA 22 l).1) (ak hq ‹decide ((k : Int) < ((l.map ab).length : Int)) = false›) ‹(!kdF 22 l) = false› (.inl rfl) (JV hl (ak hq ‹decide ((k : Int) < ((l.map ab).length : Int)) = false›) (by simpa using ‹(!kdF 22 l) = false›))
  | skip
end Go.Proofs.YtpejdgkaapnekaaGreat
namespace Go.Proofs.YtpejdgkaapnekaaGreat
open Go Go.Abs
theorem Qk(op : Int)(l : List Val)(hop : 4≤op∧op≤22)(hl : (l.length : Int) = dC op) : CallA Tryz.prog 187 [.one (.d (.int .i64 op)),.one (.d (aG l))] [] (cW (doF op l)) []:=by
 rcases pJ hop with rfl | rfl | rfl | rfl | rfl | rfl | rfl | rfl | rfl | rfl | rfl | rfl | rfl | rfl | rfl | rfl | rfl | rfl | rfl <;> simp [dC] at hl
 ·exact Lv l (by omega)
 ·exact Lw l (by omega)
 ·exact Lx l (by omega)
 ·exact Ly l (by omega)
 ·exact LA l (by omega)
 ·exact LB l (by omega)
 ·exact Jw l (by omega)
 ·exact Jx l (by omega)
 ·exact Jy l (by omega)
 ·exact I6 l (by omega)
 ·exact I7 l (by omega)
 ·exact I8 l (by omega)
 ·exact I9 l (by omega)
 ·exact Ja l (by omega)
 ·exact Jb l (by omega)
 ·exact Jn l (by omega)
 ·exact Jo l (by omega)
 ·exact Jp l (by omega)
 ·exact Jz l (by omega)
end Go.Proofs.YtpejdgkaapnekaaGreat
namespace Go.Proofs.YtpejdgkaapnekaaGreat
open Go Go.Abs
attribute [local irreducible] ae OkC ar aA av aN
set_option maxRecDepth 10000
theorem BS{ds : List Dim}{ats : List Attr}{cs : List Cell}{s : Scalar}(h : (bU ds ats cs s).2 = 0) : bI ds ats cs = 0∧dc s = true∧(aY s).length≤64∧∀ z∈aY s,qT ds ats z:=by
 unfold bU at h
 by_cases h1 : bI ds ats cs = 0
 ·rw [if_neg (by simpa using h1)] at h
  by_cases h2 : fP s = 0
  ·rw [if_neg (by simpa using h2)] at h
   obtain ⟨hp,hsz⟩:=wj h2
   exact ⟨h1,hp,hsz,LU s hp h⟩
  ·rw [if_pos h2] at h; exact absurd h h2
 ·rw [if_pos h1] at h; simp at h
theorem zL{ds : List Dim}{ats : List Attr}{at' : List Int}{vs : List Val} : ∀ {l : List Scalar} {k : Nat},k < l.length→at_ (ia ds ats at' vs l) k = gy ds ats at' vs (at_ l k)
 | [],k,h=>by simp at h
 | x::r,0,h=>rfl
 | x::r,k + 1,h=>zL (l:=r) (k:=k) (by simpa using h)
theorem FT{s x z : Scalar}(hx : x∈s.args)(hz : z∈aY x) : z∈aY s:=by
 rw [dN,List.mem_append]
 refine .inl ?_
 have : ∀ {r : List Scalar},x∈r→z∈aT r:=by
  intro r
  induction r with
  | nil=>intro h; simp at h
  | cons y r ihr =>
    intro h
    simp only [aT,List.mem_append]
    rcases List.mem_cons.1 h with rfl | h
    ·exact .inl hz
    ·exact .inr (ihr h)
 exact this hx
theorem NV(op : Int)(l : List Val)(xs : List (List D))(hx : xs = l.map ab)(hop : 4≤op∧op≤22)(hl : (l.length : Int) = dC op) : CallA Tryz.prog 187 [.one (.d (.int .i64 op)),.one (.d (.sl 4 40 xs))] [] (cW (doF op l)) []:=by
 subst hx; exact Qk op l hop hl
theorem JA{l : List Val}{n : Nat}{r : List (List D)}(hr : r = (l.take n).map ab)(hn : n≤l.length)(h : l.length≤n) : r.take n = l.map ab:=by
 have e : n = l.length:=by omega
 subst e
 rw [hr,List.take_length,List.take_of_length_le (by simp)]
set_option maxHeartbeats 4000000 in
theorem PG(ds : List Dim)(ats : List Attr)(cs : D)(s : Scalar)(at' : List Int)(vs : List Val)(hat : at'.length = ds.length)(hvs : vs.length = ats.length) : dc s = true→(∀ z∈aY s,qT ds ats z)→CallA Tryz.prog 103 [.agg [.d (aF ds),.d (ax ats),.d cs],de s,.agg [.d (aM at'),.d (aG vs)]] [] (bc (gy ds ats at' vs s)) []:=by
 induction s using Scalar.ind with
 | h s ih =>
   intro hp hn
   rw [gp,Bool.and_eq_true] at hp
   have hps:=gz hp.2
   have hns : qT ds ats s:=hn s (by rw [dN]; simp)
   rw [vY]
   refine enter af Tryz.func103 rfl (by decide +kernel) rfl fun hok w0 σ0 φ0 M=>?_
   have hsa : s.args.length < 281474976710656:=by
    have:=(OkD.sl (hok.2.1 (.d (cI s.args)) (by simp))).1; simpa [cI] using this
   clear hok
   by_cases h1 : s.op = 1
   ·have hb1 : (s.op == 1) = true:=by simp [h1]
    rw [if_pos h1]
    repeat' (first|refine wG ?_)
    all_goals first | rfl | skip
   have hb1 : (s.op == 1) = false:=by simp [h1]
   rw [if_neg h1]
   by_cases h2 : s.op = 2
   ·have hb2 : (s.op == 2) = true:=by simp [h2]
    rw [if_pos h2]
    obtain ⟨hr1,hr2⟩:=fL (p:=fun a : Attr=>a.name == s.name) (l:=ats) (k:=0) (hns.1 h2)
    repeat' (first|(refine h3H ?_; (refine h2H ?_; refine d_l J J (aB J J J J J J (qK _ _) J) ?_))|refine wG ?_)
    all_goals first | rfl | skip
   have hb2 : (s.op == 2) = false:=by simp [h2]
   rw [if_neg h2]
   by_cases h3 : s.op = 3
   ·have hb3 : (s.op == 3) = true:=by simp [h3]
    rw [if_pos h3]
    obtain ⟨hr1,hr2⟩:=fL (p:=fun a : Dim=>a.name == s.name) (l:=ds) (k:=0) (hns.2 h3)
    repeat' (first|(refine h3H ?_; (refine h2H ?_; refine d_l J J (aB J J J J J J (vJ _ _) J) ?_))|refine wG ?_)
    all_goals first | rfl | skip
   have hb3 : (s.op == 3) = false:=by simp [h3]
   rw [if_neg h3]
   obtain ⟨hop,hal⟩:=jR hp.1 h1 h2 h3
   have h3a : s.args.length≤3:=by
    have : dC s.op≤3:=by unfold dC; split <;> (try split) <;> (try split) <;> omega
    omega
   repeat' (first|(refine h1H ?_; (refine h0H ?_; refine dR 40 [10] J J J J J J J J J (NV s.op (ia ds ats at' vs s.args) _ (JA hr (by rw [jV]; exact hk) (by rw [jV]; simpa using h)) hop (by rw [jV]; exact hal)) J J J ?_))|(refine h3H ?_; (refine h2H ?_; refine d_l J J (aB J J J J J J (ih (at_ s.args p.1) (bT wB) (hps _ (bT wB)) (fun z hz=>hn z (FT (bT wB) hz))) J) ?_))|refine wG ?_|(refine h4H ?_; first|refine ah J (fun h=>?_) (fun h=>?_)|refine dX 10 J (dT (s:=7) (id:=10) (k:=4) (b:=40) J J J J) [(3,_),(4,_),(5,_),(6,_)] (q4Q J J J J) (fun (bN : Bool×Bool) (p : Nat×List (List D))=>[(7,.one (.own (nmA bN) p.1)),(8,.one (.d (.int .i64 (p.1 : Int))))]) (fun (bN : Bool×Bool) (p : Nat×List (List D))=>[((nmA bN),.row 4 40 p.2),(0,.box [.d (aF ds),.d (ax ats),.d cs]),(1,.box [.d (.int .i64 s.op),.d (.str s.name),.d (.int .i64 s.val.kind),.d (.int .i64 s.val.num),.d (.int .i64 s.val.den),.d (.str s.val.str),.d (cI s.args)]),(2,.box [.d (aM at'),.d (aG vs)]),(3,.box [.d (.int .i64 0),.d (.int .i64 0),.d (.int .i64 0),.d (.str [])])]) (fun (p : Nat×List (List D))=>p.1≤s.args.length∧p.2 = ((ia ds ats at' vs s.args).take p.1).map ab) (fun (p : Nat×List (List D))=>s.args.length - p.1) (0,[]) (q2Q J J) wK (fun b y=>by obtain ⟨b1,b2⟩:=b; cases b1 <;> cases b2 <;> first|exact Imp.refl _|exact dY qN (by kernel_rfl)) ?_ (fun p ⟨hk,hr⟩=>?_))|(show Exists _; refine Exists.intro ((p.1 + 1,p.2.take p.1 ++ [ab (gy ds ats at' vs (at_ s.args p.1))])) (Exists.intro (true,false) ⟨?_,?_,wK,(q2Q J J),(q4Q J J J J)⟩)))
   ·exact ⟨Nat.zero_le _,rfl⟩
   ·have hlt : p.1 < s.args.length:=by simpa using h
    refine ⟨hlt,?_⟩
    have this:=jM ab (ia ds ats at' vs s.args) hr (by rw [jV]; exact hlt)
    rw [zL hlt] at this
    exact this
   ·have hlt : p.1 < s.args.length:=by simpa using h
    show s.args.length - (p.1 + 1) < s.args.length - p.1
    omega
   ·rfl
end Go.Proofs.YtpejdgkaapnekaaGreat
namespace Go.Proofs.YtpejdgkaapnekaaGreat
open Go Go.Abs
attribute [local irreducible] ae OkC ar aA av aN
set_option maxRecDepth 10000
section
variable {P : Program} {c : Ctx} {fr : List (Nat×AV)} {sto : Sto} {ops : Array Oper} {o : Oper} {rest : List Oper} {K : St→Prop} {st0 : St} {acc : List Tr}
theorem CM(k : Nat){d : Nat}{fop : Operand}{args : Array Operand}{ats : Array TypeId}{f : FuncId}{caps : List D}{avs avs' : List AV}{rav rav' : AV}{rsto sto' : Sto}{tr : Tr}
  (ho : o.op = .call { callee:=.value fop,args:=args,argTypes:=ats }) (hg : o.guard = none) (hdst : o.dst = some d) (hd : Nat.blt d c.n = true) (hf : ev ⟨fr,sto⟩ fop = some (.one (.d (.fn f caps))))
  (ha : evL ⟨fr,sto⟩ args.toList = some avs) (hD : cw avs = true) (hap : (avs ++ caps.map fun x=>.one (.d x)) = avs') (hC : CallA P f avs' [] rav rsto)
  (hk : (cA [] rsto && Nat.ble (k + 16) 1000000 && c7 rsto rav && bm rsto rsto) = true) (ht : lF k [] [] rav rsto = tr) (hr : tr.v = rav') (hw : cM tr.wr sto = sto')
  (h : ar P c ops st0 rest ⟨(d,rav')::fr,sto'⟩ (tr::acc) K) : ar P c ops st0 (o::rest) ⟨fr,sto⟩ acc K:=by
 subst hap; subst hr; subst hw; subst ht
 refine mb hg (xq k ho (by rw [hdst]; exact hd) hf ha hD hC hk) ?_
 rw [hdst]; exact h
end
theorem Om(l : List Val)(hne : 0 < l.length) : CallA Tryz.prog 144 [.one (.d (aG l))] [] (.one (.own 0 l.length)) [(0,.row 4 40 (l.map ab))]:=by
 refine enter af Tryz.func144 rfl (by decide +kernel) rfl fun hok w0 σ0 φ0 M=>?_
 have h1:=hok.1.sl; clear hok; simp only [List.length_map] at h1
 repeat' (first|(refine h1H ?_; (refine h6H ?_; refine eZ af J J J J J J (fun r hr=>?_)))|(refine h1H ?_; (refine h0H ?_; refine cK af J J J J J (id:=0) J J J J J J J (by simp only [List.length_map,Nat.zero_add]; omega) (by simp only [List.length_map,Nat.zero_add]; omega) ?_))|refine wG ?_|(refine h4H ?_; refine ah J (fun h=>?_) (fun h=>?_)))
 ·have e:=hr (by simpa using h)
  simp only [List.map_eq_nil_iff] at e
  subst e; simp at hne
 ·simp
def jC(a : Arr)(s : Scalar)(c : Cell) : Cell:=⟨c.at',c.vals ++ [gy a.dims a.attrs c.at' c.vals s]⟩
def nY(a : Arr)(name : List UInt8)(t : Int) : List Attr:=a.attrs ++ [⟨name,t⟩]
def fo(a : Arr)(name : List UInt8)(s : Scalar) : Option Arr×Int :=
 if gf a≠0 then (none,2) else if !bP name || cx a name then (none,11) else if a.attrs.length = 6 then (none,9)
 else if (bU a.dims a.attrs a.cells s).2≠0 then (none,(bU a.dims a.attrs a.cells s).2)
 else jx a.dims (nY a name (bU a.dims a.attrs a.cells s).1) (a.cells.map (jC a s))
theorem qF(a : Arr)(name : List UInt8)(s : Scalar) :
  ((!bD [a]) = true∧fo a name s = (none,2)) ∨
  ((!bD [a]) = false∧(!bP name) = true∧fo a name s = (none,11)) ∨
  ((!bD [a]) = false∧(!bP name) = false∧cx a name = true∧fo a name s = (none,11)) ∨
  ((!bD [a]) = false∧(!bP name) = false∧cx a name = false∧(((a.attrs.map aX).length : Int) == 6) = true∧fo a name s = (none,9)) ∨
  ((!bD [a]) = false∧(!bP name) = false∧cx a name = false∧(((a.attrs.map aX).length : Int) == 6) = false∧((bU a.dims a.attrs a.cells s).2 != 0) = true∧fo a name s = (none,(bU a.dims a.attrs a.cells s).2)) ∨
  ((!bD [a]) = false∧(!bP name) = false∧cx a name = false∧(((a.attrs.map aX).length : Int) == 6) = false∧((bU a.dims a.attrs a.cells s).2 != 0) = false∧(bU a.dims a.attrs a.cells s).2 = 0∧fo a name s = (some ⟨a.dims,nY a name (bU a.dims a.attrs a.cells s).1,bz (a.cells.map (jC a s))⟩,0)):=by
 by_cases hc : gf a = 0
 rotate_left
 ·exact .inl ⟨by simp [bD,hc],by unfold fo; rw [if_pos hc]⟩
 have hv : (!bD [a]) = false:=by simp [bD,hc]
 refine .inr ?_
 cases h1 : bP name
 ·exact .inl ⟨hv,rfl,by unfold fo; rw [if_neg (by simpa using hc),if_pos (by simp [h1])]⟩
 refine .inr ?_
 cases h2 : cx a name
 rotate_left
 ·exact .inl ⟨hv,rfl,rfl,by unfold fo; rw [if_neg (by simpa using hc),if_pos (by simp [h2])]⟩
 refine .inr ?_
 have h12 : ¬ (!bP name || cx a name) = true:=by simp [h1,h2]
 by_cases h3 : a.attrs.length = 6
 ·exact .inl ⟨hv,rfl,rfl,by simp [h3],by unfold fo; rw [if_neg (by simpa using hc),if_neg h12,if_pos h3]⟩
 refine .inr ?_
 have h3' : (((a.attrs.map aX).length : Int) == 6) = false:=by simp; omega
 by_cases h4 : (bU a.dims a.attrs a.cells s).2 = 0
 rotate_left
 ·exact .inl ⟨hv,rfl,rfl,h3',by simp [h4],by unfold fo; rw [if_neg (by simpa using hc),if_neg h12,if_neg h3,if_pos h4]⟩
 refine .inr ⟨hv,rfl,rfl,h3',by simp [h4],h4,?_⟩
 unfold fo
 rw [if_neg (by simpa using hc),if_neg h12,if_neg h3,if_neg (by simpa using h4)]
 unfold jx
 rw [if_neg (by have:=(okA hc).few; rw [List.length_map]; omega)]
theorem Tl(ds : List Dim)(ats : List Attr)(cs : List Cell)(zs ys : List (List D))(hd : cs.Pairwise bZ)(hf : cs.length≤4096)(hz : zs = ats.map aX)(hy : ys = cs.map aD) : CallA Tryz.prog 99 [.one (.d (aF ds)),.one (.d (.sl 2 24 zs)),.one (.d (.sl 2 48 ys))] [] (.tup [(true,[.d (aF ds),.d (ax ats),.d (aO (bz cs))]),(false,[.d (.int .i64 0)])]) []:=by
 subst hz; exact KG ds ats cs _ ys hd hf rfl hy
theorem Ik(l : List Val)(v : Val) : List.take l.length (l.map ab) ++ [ab v] = (l ++ [v]).map ab:=by
 rw [List.take_of_length_le (by simp),List.map_append]; rfl
theorem zk(a : Arr)(name : List UInt8)(t : Int){n : Nat}(hn : a.attrs.length + 1≤n) : List.take n (List.take a.attrs.length (a.attrs.map aX) ++ [[.str name,.int .i64 t]]) = (nY a name t).map aX:=by
 rw [List.take_of_length_le (by simp; omega),List.take_of_length_le (by simp)]
 simp [nY,aX]
theorem BT{l : List Cell}{n : Nat}{r : List (List D)}(hr : r = (l.take n).map aD)(h : l.length≤n) : r.take n = l.map aD:=by
 rw [hr,List.take_of_length_le h,List.take_of_length_le (by simpa using h)]
theorem BU{a : Arr}{s : Scalar}{n : Nat}{r : List (List D)}(hr : r = ((a.cells.map (jC a s)).take n).map aD)(h : n < a.cells.length) : r.take n ++ [[aM (at_ a.cells n).at',.sl 4 40 (List.take ((at_ a.cells n).vals.length + 1) (List.take (at_ a.cells n).vals.length ((at_ a.cells n).vals.map ab) ++ [ab (gy a.dims a.attrs (at_ a.cells n).at' (at_ a.cells n).vals s)]))]] = ((a.cells.map (jC a s)).take (n + 1)).map aD:=by
 have e:=jM aD (a.cells.map (jC a s)) hr (by simpa using h)
 rw [eV h] at e
 have e2 : List.take ((at_ a.cells n).vals.length + 1) (((at_ a.cells n).vals ++ [gy a.dims a.attrs (at_ a.cells n).at' (at_ a.cells n).vals s]).map ab) = ((at_ a.cells n).vals ++ [gy a.dims a.attrs (at_ a.cells n).at' (at_ a.cells n).vals s]).map ab:=List.take_of_length_le (by simp)
 rw [← e,Ik,e2]
 rfl
set_option maxHeartbeats 8000000 in
theorem c44(a : Arr)(name : List UInt8)(s : Scalar) : CallA Tryz.prog 44 [fa a,.one (.d (.str name)),de s] [] (jw (fo a name s)) []:=by
 unfold fa
 refine enter af Tryz.func44 rfl (by decide +kernel) rfl fun hok w0 σ0 φ0 M=>?_
 clear hok
 rcases qF a name s with ⟨hv,e⟩ | ⟨hv,hb1,e⟩ | ⟨hv,hb1,hb2,e⟩ | ⟨hv,hb1,hb2,hb3,e⟩ | ⟨hv,hb1,hb2,hb3,hb4,e⟩ | ⟨hv,hb1,hb2,hb3,hb4,ht,e⟩
 all_goals rw [e]
 rotate_right
 ·obtain ⟨hck,hp,hsz,hn⟩:=BS ht
  have hA:=okA hck
  have hcl : ∀ i,i < a.cells.length→(at_ a.cells i).at'.length = a.dims.length∧(at_ a.cells i).vals.length = a.attrs.length:=fun i hi =>
   let h:=cellF_ok.1 (hA.cel _ (bT hi)); ⟨h.1,h.2.1⟩
  have hna : 0 < a.attrs.length:=(cH hA.sch).2.1
  have hvl : ∀ i,i < a.cells.length→0 < (at_ a.cells i).vals.length:=fun i hi=>by rw [(hcl i hi).2]; exact hna
  have hvs : ∀ i,i < a.cells.length→(at_ a.cells i).vals.length≤100000000:=fun i hi=>by have:=(cH hA.sch).2.2.1; rw [(hcl i hi).2]; omega
  have ha6:=(cH hA.sch).2.2.1
  have hdf : (a.cells.map (jC a s)).Pairwise bZ:=List.pairwise_map.2 ((cu hA.srt).imp fun h=>h)
  have hff : (a.cells.map (jC a s)).length≤4096:=by rw [List.length_map]; exact hA.few
  have hcn : a.cells.length≤4096:=hA.few
  repeat' (first|(refine h1H ?_; (refine h0H ?_; first|refine gx [3] J J J J J J J J J (c96 [a]) J ?_|refine aa J J J J J J J J (qH _) J ?_|refine aa J J J J J J J J (AS a _) J ?_|refine aa J J J J J J J J (c20 _ _ _ _) J ?_))|(refine h4H ?_; (show OkC _ _ (Code.region 15 _ _) _ _; refine bf (bq (dl:=[11]) J) ?_))|(refine h3H ?_; (refine h2H ?_; first|refine eM au 11 J J J (eF (i:=40) J J J J J J J J (show a.attrs.length≤100000000 from (by omega)) (Nat.le_of_ble_eq_true J) (Nat.le_of_ble_eq_true J)) J J ?_|refine eM au 11 J J J (eF (i:=40) J J J J J J J J (hvs _ wB) (Nat.le_of_ble_eq_true J) (Nat.le_of_ble_eq_true J)) J J ?_|refine CM 40 J J J J J J J J (Om _ (hvl _ wB)) J J J J ?_|refine CM 40 J J J J J J J J (IY a.attrs hna) J J J J ?_|refine oD 60 [11,20] J J J J J J J J J (Tl a.dims (nY a name (bU a.dims a.attrs a.cells s).1) (a.cells.map (jC a s)) _ _ hdf hff (zk a name _ (by simp)) (BT hq3 wB)) J J ?_|refine d_l J J (aB J J J J J J (Tm _ _ _ _ _ _ hp hsz hn (hcl _ wB).1 (hcl _ wB).2) J) ?_))|refine wG ?_|(refine h4H ?_; first|refine ah J (fun h=>?_) (fun h=>?_)|refine dX 12 J (dT (s:=10) (id:=20) (k:=2) (b:=48) J J J J) [(1,_),(3,_),(5,_),(6,_),(8,_),(47,_),(48,_)] (q7Q J J J J J J J) (fun (bN : Bool×Bool) (q : Nat×List (List D))=>[(10,.one (.own 20 q.1)),(49,.one (.d (.int .i64 (q.1 : Int))))]) (fun (bN : Bool×Bool) (q : Nat×List (List D))=>[(20,.row 2 48 q.2),(0,.box [.d (aF a.dims),.d (ax a.attrs),.d (aO a.cells)]),(1,.box [.d (.int .i64 s.op),.d (.str s.name),.d (.int .i64 s.val.kind),.d (.int .i64 s.val.num),.d (.int .i64 s.val.den),.d (.str s.val.str),.d (cI s.args)]),(2,.box [.d .nil,.d .nil,.d .nil])]) (fun (q : Nat×List (List D))=>q.1≤a.cells.length∧q.2 = ((a.cells.map (jC a s)).take q.1).map aD) (fun (q : Nat×List (List D))=>a.cells.length - q.1) (0,[]) (q2Q J J) wK (fun b y=>by obtain ⟨b1,b2⟩:=b; cases b1 <;> cases b2 <;> first|exact Imp.refl _|exact dY qN (by kernel_rfl)) ?_ (fun q ⟨hq1,hq3⟩=>?_))|(show Exists _; refine Exists.intro ((q.1 + 1,q.2.take q.1 ++ [[aM (at_ a.cells q.1).at',.sl 4 40 (List.take ((at_ a.cells q.1).vals.length + 1) (List.take (at_ a.cells q.1).vals.length ((at_ a.cells q.1).vals.map ab) ++ [ab (gy a.dims a.attrs (at_ a.cells q.1).at' (at_ a.cells q.1).vals s)]))]])) (Exists.intro (false,false) ⟨?_,?_,wK,(q2Q J J),(q7Q J J J J J J J)⟩)))
  all_goals first
   | rfl
   | exact ⟨Nat.zero_le _,rfl⟩
   | (have hlt : q.1 < a.cells.length:=by simpa using h
      exact ⟨hlt,BU hq3 hlt⟩)
   | (have hlt : q.1 < a.cells.length:=by simpa using h
      show a.cells.length - (q.1 + 1) < a.cells.length - q.1
      omega)
   | skip
 repeat' (first|(refine h1H ?_; (refine h0H ?_; first|refine gx [3] J J J J J J J J J (c96 [a]) J ?_|refine aa J J J J J J J J (qH _) J ?_|refine aa J J J J J J J J (AS a _) J ?_|refine aa J J J J J J J J (c20 _ _ _ _) J ?_))|refine wG ?_)
 all_goals rfl
end Go.Proofs.YtpejdgkaapnekaaGreat
namespace Go.Proofs.YtpejdgkaapnekaaGreat
open Go Go.Abs
attribute [local irreducible] ae OkC ar aA av aN OkR rT cN iQ vB
set_option maxRecDepth 10000
end Go.Proofs.YtpejdgkaapnekaaGreat
namespace Go.Proofs.YtpejdgkaapnekaaGreat
open Go Go.Abs
def dO(c : Cell) : List Cell→List Cell
 | []=>[c]
 | x::r=>if bn x.at' c.at' < 0 then x::dO c r else if bn x.at' c.at' = 0 then c::r else c::x::r
end Go.Proofs.YtpejdgkaapnekaaGreat
namespace Go.Proofs.YtpejdgkaapnekaaGreat
open Go Go.Abs
attribute [local irreducible] ae OkC ar aA av aN
set_option maxRecDepth 10000
theorem Hk(ds : List Dim)(ats : List Attr)(cs : D)(name : List UInt8) : CallA Tryz.prog 113 [.agg [.d (aF ds),.d (ax ats),.d cs],.one (.d (.str name))] [] (.one (.d (.bool (decide (0≤er ds name) || decide (0≤atX ats name))))) []:=by
 refine enter af Tryz.func113 rfl (by decide +kernel) rfl fun hok w0 σ0 φ0 M=>?_
 clear hok
 repeat' (first|(refine h1H ?_; (refine h0H ?_; first|refine aa J J J J J J J J (vJ _ _) J ?_|refine aa J J J J J J J J (qK _ _) J ?_))|refine wG ?_|(refine h1H ?_; (refine h5H ?_; refine aJ J J J J (fun h=>?_) (fun h=>?_))))
 all_goals (try (((simp_all [er,atX,ao,List.drop_eq_nil_of_le]) <;> exact wL); done))
def cr : List Cell→List Cell→List Cell
 | [],b=>b
 | x::a,[]=>x::a
 | x::a,y::b=>if bn y.at' x.at' < 0 then y::cr (x::a) b else x::cr a (y::b)
 termination_by a b=>a.length + b.length
theorem merge_perm : ∀ {a b : List Cell},(cr a b).Perm (a ++ b)
 | [],b=>by simp [cr]
 | x::a,[]=>by simp [cr]
 | x::a,y::b=>by
   rw [cr]
   split
   ·exact ((merge_perm (a:=x::a) (b:=b)).cons y).trans List.perm_middle.symm
   ·exact (merge_perm (a:=a) (b:=y::b)).cons x
 termination_by a b=>a.length + b.length
theorem w8{a b : List Cell}{z : Cell}(h : z∈cr a b) : z∈a∨z∈b:=List.mem_append.1 (merge_perm.mem_iff.1 h)
theorem mL : ∀ {a b : List Cell},a.Pairwise ltC→b.Pairwise ltC→(∀ x∈a,∀ y∈b,bZ x y)→(cr a b).Pairwise ltC
 | [],b,_,hb,_=>by rw [cr]; exact hb
 | x::a,[],ha,_,_=>by rw [cr]; exact ha
 | x::a,y::b,ha,hb,hd=>by
   rw [cr]
   have ha':=List.pairwise_cons.1 ha
   have hb':=List.pairwise_cons.1 hb
   split
   ·rename_i h
    refine List.pairwise_cons.2 ⟨fun z hz=>?_,mL ha hb'.2 fun u hu v hv=>hd u hu v (List.mem_cons_of_mem _ hv)⟩
    rcases w8 hz with hz | hz
    ·rcases List.mem_cons.1 hz with rfl | hz
     ·exact h
     ·exact ny h (ha'.1 z hz)
    ·exact hb'.1 z hz
   ·rename_i h
    have hxy : ltC x y:=lX h (hd x List.mem_cons_self y List.mem_cons_self)
    refine List.pairwise_cons.2 ⟨fun z hz=>?_,mL ha'.2 hb fun u hu v hv=>hd u (List.mem_cons_of_mem _ hu) v hv⟩
    rcases w8 hz with hz | hz
    ·exact ha'.1 z hz
    ·rcases List.mem_cons.1 hz with rfl | hz
     ·exact hxy
     ·exact ny hxy (hb'.1 z hz)
 termination_by a b=>a.length + b.length
theorem Dn{l : List Cell}{n : Nat}(hd : l.Pairwise bZ) : cr (bz (l.take n)) (bz (l.drop n)) = bz l:=by
 have hd' : (l.take n ++ l.drop n).Pairwise bZ:=by rw [List.take_append_drop]; exact hd
 obtain ⟨h1,h2,h3⟩:=List.pairwise_append.1 hd'
 refine jl ?_ (mL (ek h1) (ek h2) fun x hx y hy=>h3 x ((cU _).mem_iff.1 hx) y ((cU _).mem_iff.1 hy)) (ek hd)
 refine merge_perm.trans (((cU _).append (cU _)).trans ?_)
 rw [List.take_append_drop]
 exact (cU l).symm
theorem Dp{l : List Cell}(h : l.length < 2) : bz l = l:=by
 match l,h with
 | [],_=>exact pr (by simp)
 | [x],_=>exact pr (by simp)
theorem Je{la lb : List Cell}(ha : 0 < la.length)(hb : 0 < lb.length)(h : bn (at_ lb 0).at' (at_ la 0).at' < 0) : cr la lb = at_ lb 0::cr la (lb.drop 1):=by
 obtain ⟨x,la',rfl⟩:=List.exists_cons_of_length_pos ha
 obtain ⟨y,lb',rfl⟩:=List.exists_cons_of_length_pos hb
 rw [cr]; exact if_pos h
theorem Jf{la lb : List Cell}(ha : 0 < la.length)(hb : 0 < lb.length)(h : ¬ bn (at_ lb 0).at' (at_ la 0).at' < 0) : cr la lb = at_ la 0::cr (la.drop 1) lb:=by
 obtain ⟨x,la',rfl⟩:=List.exists_cons_of_length_pos ha
 obtain ⟨y,lb',rfl⟩:=List.exists_cons_of_length_pos hb
 rw [cr]; exact if_neg h
theorem Jg{la lb : List Cell}(h : la.length = 0∨lb.length = 0) : cr la lb = la ++ lb:=by
 rcases h with h | h
 ·rw [List.length_eq_zero_iff.1 h,cr]; rfl
 ·rw [List.length_eq_zero_iff.1 h]; cases la <;> simp [cr]
theorem zc{r : List (List D)}{lo : List Cell}{c : Cell}{n : Nat}(hr : r = lo.map aD)(hn : n = r.length) : r.take n ++ [aD c] = (lo ++ [c]).map aD:=by
 subst hn; rw [List.take_length,hr,List.map_append]; rfl
theorem w9{ra rb r : List (List D)}{a b la lb lo : List Cell}{n : Nat}(h1 : ra = la.map aD)(h2 : rb = lb.map aD)(h3 : r = lo.map aD)(h4 : n = r.length)(h5 : cr a b = lo ++ cr la lb)(h : la.length = 0∨lb.length = 0) :
  AV.one (dq 10 (.row 2 48 (List.take (n + ra.length) (List.take n r ++ ra) ++ rb)) (.own 10 (n + ra.length + rb.length))) = .one (.d (aO (cr a b))):=by
 show AV.one (.d (.sl 2 48 (List.take (n + ra.length + rb.length) (List.take (n + ra.length) (List.take n r ++ ra) ++ rb)))) = _
 subst h4
 rw [List.take_length,← List.length_append,List.take_length,← List.length_append,List.take_length,h5,Jg h,h1,h2,h3,aO,List.map_append,List.map_append,List.append_assoc]
theorem Pp(a b : List Cell)(hl : a.length + b.length≤4096) : CallA Tryz.prog 232 [.one (.d (aO a)),.one (.d (aO b))] [] (.one (.d (aO (cr a b)))) []:=by
 refine enter af Tryz.func232 rfl (by decide +kernel) rfl fun hok w0 σ0 φ0 M=>?_
 clear hok
 repeat' (first|(refine h1H ?_; (refine tt ?_; first|refine s_e au J J J (ch J J J J J (Int.le_refl _) (ea hp1 wB)) ?_|refine s_e au J J J (ch J J J J J (Int.le_refl _) (ea hp2 wB)) ?_))|(refine h1H ?_; (refine Pq ?_; refine s_e au J J J (oB J J J J J (by omega) (by show 1≤_; simp at *; omega)) ?_))|(refine h4H ?_; refine bf (bq (dl:=[10]) J) (bH ?_))|(refine h3H ?_; (refine Hg ?_; first|refine d_e au J J J (ch J J J J J (Int.le_refl _) (ea hp1 wB)) ?_|refine d_e au J J J (ch J J J J J (Int.le_refl _) (ea hp2 wB)) ?_))|(refine h3H ?_; (refine h2H ?_; refine d_l J J (aB J J J J J J (KP _ _) J) ?_))|refine wG ?_|(refine h1H ?_; (refine h5H ?_; refine aJ J J J J (fun h=>?_) (fun h=>?_)))|(refine h4H ?_; first|refine ah J (fun h=>?_) (fun h=>?_)|refine dX 2 J (dT (s:=5) (id:=10) (k:=2) (b:=48) J J J J) [] aZ (fun (bN : Bool×Bool) (p : List (List D)×List (List D)×Nat×List (List D)×List Cell×List Cell×List Cell)=>[(0,.one (.d (.sl 2 48 p.1))),(1,.one (.d (.sl 2 48 p.2.1))),(5,.one (.own 10 p.2.2.1))]) (fun (bN : Bool×Bool) (p : List (List D)×List (List D)×Nat×List (List D)×List Cell×List Cell×List Cell)=>[(10,.row 2 48 p.2.2.2.1)]) (fun (p : List (List D)×List (List D)×Nat×List (List D)×List Cell×List Cell×List Cell)=>p.1 = p.2.2.2.2.1.map aD∧p.2.1 = p.2.2.2.2.2.1.map aD∧p.2.2.2.1 = p.2.2.2.2.2.2.map aD∧p.2.2.1 = p.2.2.2.1.length∧cr a b = p.2.2.2.2.2.2 ++ cr p.2.2.2.2.1 p.2.2.2.2.2.1∧p.2.2.1 + p.1.length + p.2.1.length = a.length + b.length) (fun (p : List (List D)×List (List D)×Nat×List (List D)×List Cell×List Cell×List Cell)=>p.1.length + p.2.1.length) (a.map aD,b.map aD,0,[],a,b,[]) (q3Q J J J) wK (fun b y=>by obtain ⟨b1,b2⟩:=b; cases b1 <;> cases b2 <;> first|exact Imp.refl _|exact dY qN (by kernel_rfl)) ?_ (fun p ⟨hp1,hp2,hp3,hp4,hp5,hp6⟩=>?_))|(show Exists _; first|refine Exists.intro ((p.1,p.2.1.drop 1,p.2.2.1 + 1,p.2.2.2.1.take p.2.2.1 ++ [aD (at_ p.2.2.2.2.2.1 0)],p.2.2.2.2.1,p.2.2.2.2.2.1.drop 1,p.2.2.2.2.2.2 ++ [at_ p.2.2.2.2.2.1 0])) (Exists.intro (false,false) ⟨?_,?_,wK,(q3Q J J J),aZ⟩)|refine Exists.intro ((p.1.drop 1,p.2.1,p.2.2.1 + 1,p.2.2.2.1.take p.2.2.1 ++ [aD (at_ p.2.2.2.2.1 0)],p.2.2.2.2.1.drop 1,p.2.2.2.2.2.1,p.2.2.2.2.2.2 ++ [at_ p.2.2.2.2.1 0])) (Exists.intro (false,false) ⟨?_,?_,wK,(q3Q J J J),aZ⟩)))
 ·exact ⟨rfl,rfl,rfl,rfl,(List.nil_append _).symm,by simp⟩
 all_goals (obtain ⟨ra,rb,n,r,la,lb,lo⟩:=p; dsimp only at *)
 ·have ha : 0 < la.length:=by have:=‹decide (0 < (ra.length : Int)) = true›; rw [hp1] at this; simpa using this
  have hb : 0 < lb.length:=by have:=‹decide (0 < (rb.length : Int)) = true›; rw [hp2] at this; simpa using this
  have hc:=Je ha hb (of_decide_eq_true h)
  exact ⟨hp1,by rw [hp2,List.map_drop],zc hp3 hp4,by simp [hp4],by rw [hp5,hc,List.append_assoc]; rfl,by rw [List.length_drop]; have : rb.length = lb.length:=(by rw [hp2,List.length_map]); omega⟩
 ·have hb : 0 < rb.length:=by simpa using ‹decide (0 < (rb.length : Int)) = true›
  rw [List.length_drop]; omega
 ·have ha : 0 < la.length:=by have:=‹decide (0 < (ra.length : Int)) = true›; rw [hp1] at this; simpa using this
  have hb : 0 < lb.length:=by have:=‹decide (0 < (rb.length : Int)) = true›; rw [hp2] at this; simpa using this
  have hc:=Jf ha hb (of_decide_eq_false h)
  exact ⟨by rw [hp1,List.map_drop],hp2,zc hp3 hp4,by simp [hp4],by rw [hp5,hc,List.append_assoc]; rfl,by rw [List.length_drop]; have : ra.length = la.length:=(by rw [hp1,List.length_map]); omega⟩
 ·have hb : 0 < ra.length:=by simpa using ‹decide (0 < (ra.length : Int)) = true›
  rw [List.length_drop]; omega
 ·have hb : rb.length = 0:=by simpa using h
  exact w9 hp1 hp2 hp3 hp4 hp5 (Or.inr (by rw [hp2,List.length_map] at hb; exact hb))
 ·have hb : ra.length = 0:=by simpa using h
  exact w9 hp1 hp2 hp3 hp4 hp5 (Or.inl (by rw [hp1,List.length_map] at hb; exact hb))
theorem Nz(ds : List Dim)(name : List UInt8)(k : Nat)(h : er ds name = (k : Int)) : CallA Tryz.prog 118 [.one (.d (aF ds)),.one (.d (.str name))] [] (.one (.d (.int .i64 (k : Int)))) []:=by
 have h1:=vJ ds name
 unfold er at h
 rw [h] at h1
 exact h1
theorem NA(ats : List Attr)(name : List UInt8)(k : Nat)(h : atX ats name = (k : Int)) : CallA Tryz.prog 114 [.one (.d (ax ats)),.one (.d (.str name))] [] (.one (.d (.int .i64 (k : Int)))) []:=by
 have h1:=qK ats name
 unfold atX at h
 rw [h] at h1
 exact h1
theorem GL{l : List Cell}{h : Int}(hh : h.toNat = l.length / 2) : List.take h.toNat (List.map aD l) = (l.take (l.length / 2)).map aD:=by rw [hh,List.map_take]
theorem GM{l : List Cell}{h : Int}(hh : h.toNat = l.length / 2) : List.drop h.toNat (List.map aD l) = (l.drop (l.length / 2)).map aD:=by rw [hh,List.map_drop]
theorem tv{l : List Cell} : (bz l).length = l.length:=(cU l).length_eq
theorem GN{k b n : Nat}{xs ys : List (List D)}(he : xs.take n = ys) : AV.one (dq 0 (.row k b xs) (.own 0 n)) = .one (.d (.sl k b ys)):=by subst he; rfl
theorem Ow(n : Nat)(ih : ∀ (ys : List (List D)) (l : List Cell),ys = l.map aD→l.length < n→l.Pairwise bZ→l.length≤4096→CallA Tryz.prog 184 [.one (.d (.sl 2 48 ys))] [] (.one (.d (aO (bz l)))) [])
  (l : List Cell) (hn : l.length = n) (hd : l.Pairwise bZ) (hl : l.length≤4096) : CallA Tryz.prog 184 [.one (.d (.sl 2 48 (l.map aD)))] [] (.one (.d (aO (bz l)))) []:=by
 have hd1 : (l.take (l.length / 2)).Pairwise bZ:=hd.sublist (List.take_sublist _ _)
 have hd2 : (l.drop (l.length / 2)).Pairwise bZ:=hd.sublist (List.drop_sublist _ _)
 have e2 : ((((l.map aD).length : Nat) : Int) / 2).toNat = l.length / 2:=by rw [List.length_map]; omega
 have hm1 : (l.take (l.length / 2)).length≤4096:=by rw [List.length_take]; omega
 have hm2 : (l.drop (l.length / 2)).length≤4096:=by rw [List.length_drop]; omega
 have hl3 : (bz (l.take (l.length / 2))).length + (bz (l.drop (l.length / 2))).length≤4096:=by rw [tv,tv,List.length_take,List.length_drop]; omega
 refine enter af Tryz.func184 rfl (by decide +kernel) rfl fun hok w0 σ0 φ0 M=>?_
 clear hok
 rcases Nat.lt_or_ge l.length 2 with h2 | h2
 ·have hb : decide (((List.map aD l).length : Int) < 2) = true:=by simp; omega
  repeat' (first|(refine h4H ?_; refine bf (bq (dl:=[0]) J) (bH ?_))|refine wG ?_)
  refine GN ?_
  rw [Dp h2,List.take_zero,List.nil_append,Nat.zero_add,List.take_length]
 ·have hb : decide (((List.map aD l).length : Int) < 2) = false:=by simp; omega
  have hl1 : (l.take (l.length / 2)).length < n:=by rw [List.length_take]; omega
  have hl2 : (l.drop (l.length / 2)).length < n:=by rw [List.length_drop]; omega
  repeat' (first|(refine h1H ?_; (refine qP ?_; refine s_e au J J J (eN J J J J (by omega) (by omega) (gJ (by omega) (by omega))) ?_))|(refine h3H ?_; (refine Qc ?_; refine d_e au J J J (kL J J J J J (by simp; omega) (by simp; omega)) ?_))|(refine h3H ?_; (refine Qd ?_; refine d_e au J J J (oB J J J J J (by simp; omega) (by simp; omega)) ?_))|(refine h3H ?_; (refine h2H ?_; first|refine bh 16 J J J J J J J J (ih _ (l.take (l.length / 2)) (GL e2) hl1 hd1 hm1) J J ?_|refine bh 16 J J J J J J J J (ih _ (l.drop (l.length / 2)) (GM e2) hl2 hd2 hm2) J J ?_|refine bh 16 J J J J J J J J (Pp _ _ hl3) J J ?_))|refine wG ?_)
  rw [Dn hd]; rfl
theorem I1 : ∀ (n : Nat) (ys : List (List D)) (l : List Cell),ys = l.map aD→l.length < n→l.Pairwise bZ→l.length≤4096→CallA Tryz.prog 184 [.one (.d (.sl 2 48 ys))] [] (.one (.d (aO (bz l)))) []
 | 0,_,_,_,h,_,_=>absurd h (Nat.not_lt_zero _)
 | n + 1,ys,l,hy,h,hd,hl=>by
   subst hy
   exact Ow l.length (fun ys' l' hy' h' hd' hl'=>I1 n ys' l' hy' (by omega) hd' hl') l rfl hd hl
theorem Px(l : List Cell)(hd : l.Pairwise bZ)(hl : l.length≤4096) : CallA Tryz.prog 184 [.one (.d (aO l))] [] (.one (.d (aO (bz l)))) []:=I1 (l.length + 1) _ l rfl (Nat.lt_succ_self _) hd hl
def oF(c : Cell) : Prop:=c.at'.length≤1048576∧c.vals.length≤1048576
theorem Hh{ds : List Dim}{ats : List Attr}{l : List Cell}(h1 : ds.length≤1048576)(h2 : ats.length≤1048576)(h3 : ∀ c∈l,oF c)(h4 : l.length≤4096) : oG ⟨ds,ats,bz l⟩:=by
 have hn : (bz l).length≤4096:=by rw [tv]; exact h4
 exact ⟨h1,h2,by show (bz l).length≤_; omega,fun k hk=>h3 _ ((cU l).mem_iff.1 (bT hk))⟩
theorem Pw(ds : List Dim)(ats : List Attr)(l : List Cell)(hd : l.Pairwise bZ)(h1 : ds.length≤1048576)(h2 : ats.length≤1048576)(h3 : ∀ c∈l,oF c) : CallA Tryz.prog 101 [.one (.d (aF ds)),.one (.d (ax ats)),.one (.d (aO l))] [] (jw (jx ds ats l)) []:=by
 refine enter af Tryz.func101 rfl (by decide +kernel) rfl fun hok w0 σ0 φ0 M=>?_
 clear hok
 by_cases h4 : 4096 < (l.length : Int)
 ·have hb : decide (4096 < ((l.map aD).length : Int)) = true:=by simpa using h4
  simp only [jx,if_pos h4,jw]
  repeat' (first|refine wG ?_)
  all_goals rfl
 ·have hb : decide (4096 < ((l.map aD).length : Int)) = false:=by simpa using h4
  have hl : l.length≤4096:=by omega
  have hsm:=Hh h1 h2 h3 hl
  simp only [jx,if_neg h4,jw]
  repeat' (first|(refine h1H ?_; (refine h0H ?_; first|refine az 16 J J J J J J J J (Px _ hd hl) J J J ?_|refine az 16 J J J J J J J J (c22 ⟨ds,ats,bz l⟩ hsm) J J J ?_))|refine wG ?_)
  all_goals rfl
theorem Nw(ds : List Dim)(ats : List Attr)(l : List Cell)(ys : List (List D))(hd : l.Pairwise bZ)(h1 : ds.length≤1048576)(h2 : ats.length≤1048576)(h3 : ∀ c∈l,oF c)(hl : l.length≤4096)(hy : ys = l.map aD) : CallA Tryz.prog 101 [.one (.d (aF ds)),.one (.d (ax ats)),.one (.d (.sl 2 48 ys))] [] (.tup [(true,[.d (aF ds),.d (ax ats),.d (aO (bz l))]),(false,[.d (.int .i64 0)])]) []:=by
 subst hy
 have h:=Pw ds ats l hd h1 h2 h3
 unfold jx at h
 rw [if_neg (by omega)] at h
 exact h
end Go.Proofs.YtpejdgkaapnekaaGreat
