/- Contracts of the program's and the reference's functions (Step1, Step2). -/
import Derived.Test.YtlimlolciekimaaGreatDoorRows
import Derived.Test.YtlimlolciekimaaGreatDoorQUb
import Derived.Test.YtlimlolciekimaaGreatDoorQUa
import Derived.Test.YtlimlolciekimaaGreatDoorQUd
namespace Go.Proofs.YtlimlolciekimaaGreatDoor
set_option maxHeartbeats 1600000
open Go.ChangeShapes Go.WideShapes Go.ChangeAt Go.RowKit
set_option linter.unusedVariables false
set_option maxRecDepth 10000
def plainStep (K F L T I:Int) (b a:ByteArray):Bool :=
 if K=1∨K=2 then (I==0)&&(b.toList.isEmpty&&a.toList.isEmpty) else if K=3 then (F==0)&&((L==0)&&(T==0)) else false
theorem plain_1 (F L T I:Int) (b a:ByteArray):plainStep 1 F L T I b a=((I==0)&&(b.toList.isEmpty&&a.toList.isEmpty)):=by simp [plainStep]
theorem plain_2 (F L T I:Int) (b a:ByteArray):plainStep 2 F L T I b a=((I==0)&&(b.toList.isEmpty&&a.toList.isEmpty)):=by simp [plainStep]
theorem plain_3 (F L T I:Int) (b a:ByteArray):plainStep 3 F L T I b a=((F==0)&&((L==0)&&(T==0))):=by simp [plainStep]
theorem plain_no {K F L T I:Int} {b a:ByteArray} (h1:K≠1) (h2:K≠2) (h3:K≠3):plainStep K F L T I b a=false:=by simp [plainStep,h1,h2,h3]
theorem i_isPlain (K F L T I:Int) (b a:ByteArray) (w:World) :
  Calls Tryz.prog 187 #[.agg #[.int .i64 K,.int .i64 F,.int .i64 L,.int .i64 T,.int .i64 I,.string b,.string a]] w fun e w'=>e=.returned (.bool (plainStep K F L T I b a))∧Below w.heap.size w w':=by
 by_cases h1:K=1
 ·subst h1
  rw [plain_1]
  cases hI:(I==0) <;> cases hb:b.toList.isEmpty <;> cases ha:a.toList.isEmpty <;>
  ·go_enter Tryz.func187,Tryz.ntmps187
   go_wp2
   go_ret
   refine ⟨ret_bool ?_,bel⟩;(first|rfl|(simp_all;done)|trace_state)
 ·by_cases h2:K=2
  ·subst h2
   rw [plain_2]
   clear h1
   cases hI:(I==0) <;> cases hb:b.toList.isEmpty <;> cases ha:a.toList.isEmpty <;>
   ·go_enter Tryz.func187,Tryz.ntmps187
    go_wp2
    go_ret
    refine ⟨ret_bool ?_,bel⟩;(first|rfl|(simp_all;done)|trace_state)
  ·by_cases h3:K=3
   ·subst h3
    rw [plain_3]
    clear h1 h2
    cases hF:(F==0) <;> cases hL:(L==0) <;> cases hT:(T==0) <;>
    ·go_enter Tryz.func187,Tryz.ntmps187
     go_wp2
     go_ret
     refine ⟨ret_bool ?_,bel⟩;(first|rfl|(simp_all;done)|trace_state)
   ·have HP:=Lib.hid (plain_no (F:=F) (L:=L) (T:=T) (I:=I) (b:=b) (a:=a) h1 h2 h3)
    have e1:(K==1)=false:=by simpa using h1
    have e2:(K==2)=false:=by simpa using h2
    have e3:(K==3)=false:=by simpa using h3
    clear h1 h2 h3
    go_enter Tryz.func187,Tryz.ntmps187
    go_wp2
    go_ret
    exact ⟨ret_bool HP.out.symm,bel⟩
theorem s_l37Plain (K F L T I:Int) (b a:ByteArray) (w:World) :
  Calls Tryz.prog 200 #[.agg #[.int .i64 K,.int .i64 F,.int .i64 L,.int .i64 T,.int .i64 I,.string b,.string a]] w fun e w'=>e=.returned (.bool (plainStep K F L T I b a))∧Below w.heap.size w w':=by
 by_cases h1:K=1
 ·subst h1
  rw [plain_1]
  cases hI:(I==0) <;> cases hb:b.toList.isEmpty <;> cases ha:a.toList.isEmpty <;>
  ·go_enter Tryz.func200,Tryz.ntmps200
   go_wp2
   go_ret
   refine ⟨ret_bool ?_,bel⟩;(first|rfl|(simp_all;done)|trace_state)
 ·by_cases h2:K=2
  ·subst h2
   rw [plain_2]
   clear h1
   cases hI:(I==0) <;> cases hb:b.toList.isEmpty <;> cases ha:a.toList.isEmpty <;>
   ·go_enter Tryz.func200,Tryz.ntmps200
    go_wp2
    go_ret
    refine ⟨ret_bool ?_,bel⟩;(first|rfl|(simp_all;done)|trace_state)
  ·by_cases h3:K=3
   ·subst h3
    rw [plain_3]
    clear h1 h2
    cases hF:(F==0) <;> cases hL:(L==0) <;> cases hT:(T==0) <;>
    ·go_enter Tryz.func200,Tryz.ntmps200
     go_wp2
     go_ret
     refine ⟨ret_bool ?_,bel⟩;(first|rfl|(simp_all;done)|trace_state)
   ·have HP:=Lib.hid (plain_no (F:=F) (L:=L) (T:=T) (I:=I) (b:=b) (a:=a) h1 h2 h3)
    have e1:(K==1)=false:=by simpa using h1
    have e2:(K==2)=false:=by simpa using h2
    have e3:(K==3)=false:=by simpa using h3
    clear h1 h2 h3
    go_enter Tryz.func200,Tryz.ntmps200
    go_wp2
    go_ret
    exact ⟨ret_bool HP.out.symm,bel⟩
def exchRes (d f:Int) (ss:List ByteArray) (k:Int) (b a:ByteArray):List ByteArray×Bool :=
 if (cardOk d f ss&&inB k 0 ((ss.length:Int) - 1))&&decide (ss.getD k.toNat ByteArray.empty=b) then putAt d f ss k a else (ss,false)
def stepRes (on:Bool) (d f:Int) (ss:List ByteArray) (K F L T I:Int) (b a:ByteArray):List ByteArray×Bool :=
 if plainStep K F L T I b a=false then (ss,false) else if K=1 then boxRes (if on then 100 else 102) d f ss F L T else if K=2 then boxRes (if on then 102 else 100) d f ss F L T
 else if on then exchRes d f ss I b a else exchRes d f ss I a b
theorem plain_iff {K F L T I:Int} {b a:ByteArray} (h:plainStep K F L T I b a=true):K=1∨K=2∨K=3:=by
 unfold plainStep at h
 split at h
 ·omega
 ·split at h
  ·omega
  ·cases h
theorem stepRes_no {on:Bool} {d f:Int} {ss:List ByteArray} {K F L T I:Int} {b a:ByteArray} (h:plainStep K F L T I b a=false):stepRes on d f ss K F L T I b a=(ss,false):=by unfold stepRes;rw [if_pos h]
theorem exchRes_no {d f:Int} {ss:List ByteArray} {k:Int} {b a:ByteArray} (h:(cardOk d f ss&&inB k 0 ((ss.length:Int) - 1))=false):exchRes d f ss k b a=(ss,false):=by unfold exchRes;rw [h];rfl
theorem exchRes_ne {d f:Int} {ss:List ByteArray} {K:Nat} {b a:ByteArray} (hk:K<ss.length) (h:ss[K]≠b):exchRes d f ss K b a=(ss,false):=by
 unfold exchRes
 have:decide (ss.getD (K:Int).toNat ByteArray.empty=b)=false:=by
  simp only [Int.toNat_natCast,List.getD,List.getElem?_eq_getElem hk,Option.getD_some]
  simpa using h
 rw [this];simp
theorem exchRes_eq {d f:Int} {ss:List ByteArray} {K:Nat} {b a:ByteArray} (hk:K<ss.length) (h0:(cardOk d f ss&&inB (K:Int) 0 ((ss.length:Int) - 1))=true) (h:ss[K]=b):exchRes d f ss K b a=putAt d f ss K a:=by
 unfold exchRes
 have:decide (ss.getD (K:Int).toNat ByteArray.empty=b)=true:=by
  simp only [Int.toNat_natCast,List.getD,List.getElem?_eq_getElem hk,Option.getD_some]
  simpa using h
 rw [h0,this];simp
theorem i_exchange (d f:Int) (B:Nat) (A:Option Addr) (n c:Nat) (ss:List ByteArray) (k:Int) (b a:ByteArray) (w:World) (hS:Strs w B A n ss) (hB:B≤w.heap.size) (ha:a.size≤16777216) :
  Calls Tryz.prog 190 #[.agg #[.int .i64 d,.int .i64 f,.slice A n c],.int .i64 k,.string b,.string a] w (FreshCardB w.heap.size d f (exchRes d f ss k b a).1 (exchRes d f ss k b a).2 w):=by
 have hn:=hS.nb
 have hl:=hS.len
 have hS2:=(hS.alloc hB (.cells #[.int .i64 d,.int .i64 f,.slice A n c] 26)).alloc (by simp;omega) (.cells #[.int .i64 0,.int .i64 0,.slice none 0 0] 26)
 have HL:=Lib.hid hl
 cases hh:(cardOk d f ss&&inB k 0 ((n:Int) - 1))
 ·have HP:=Lib.hid (exchRes_no (d:=d) (f:=f) (ss:=ss) (k:=k) (b:=b) (a:=a) (by rw [hl];exact hh))
  clear hl
  go_enter Tryz.func190,Tryz.ntmps190
  go_wp2_with (first|(go_at_call 238;refine (i_hasStrip _ _ B _ _ _ ss _ _ hS2 (by simp;omega)).mono ?_;rw [hh];rintro e w1 ⟨rfl,hb1⟩;obtain ⟨hcb,hfb⟩:=bcell hb1;obtain ⟨qaa,qba,qca,qda⟩:=zs2 (show w.heap.size+1<w1.heap.size by have hzz:=hb1.size;(try simp at hzz);omega))|(go_at_call 122;refine (i_copied _ _ B _ _ _ ss _ (hS2.below (hb1.mono (by simp;omega))) (by first|omega|(simp;omega))).mono ?_;rintro e w3 ⟨A3,c3,rfl,ho3,hb3⟩;obtain ⟨hcb3,hfb3⟩:=bcell hb3;obtain ⟨qea,qfa,qga,qha⟩:=zs2 (show w.heap.size+1<w3.heap.size by have hzz:=hb3.size;(try simp at hzz);omega)))
  refine bodyPost_ret (v:=.tuple #[.agg #[.int .i64 d,.int .i64 f,.slice A3 ss.length c3],.bool false]) (by simp [results,Tryz.results190,go_sem, *]) rfl ?_
  rw [HP.out]
  exact ⟨A3,c3,rfl,own_up ho3 upr (by first|exact Nat.le_refl _|(simp;done)|omega|(simp;omega)|exact (‹_∧_∧Below _ _ _›).2.2.size),bel⟩
 ·obtain ⟨hc0,hk⟩:cardOk d f ss=true∧inB k 0 ((n:Int) - 1)=true:=by simpa using hh
  obtain ⟨hk0,hk1⟩:=inB_iff.1 hk
  obtain ⟨k,rfl⟩:=Int.eq_ofNat_of_zero_le hk0
  have hkn:k<n:=by omega
  obtain ⟨hkl,ad,rfl,hab,hcell,hsz⟩:=hS.at_ hkn
  have hadn0:ad.block≠w.heap.size:=by omega
  have hadl:ad.block<w.heap.size:=by omega
  have hS4:=hS2.at_ hkn
  by_cases he:ss[k]=b
  ·have HP:=Lib.hid (exchRes_eq (d:=d) (f:=f) (b:=b) (a:=a) hkl (by rw [hl];exact hh) he)
   have hbq:=beq_toList_true he
   clear hl he hk0 hk1
   go_enter Tryz.func190,Tryz.ntmps190
   go_wp2_with (first|(go_at_call 238;refine (i_hasStrip _ _ B _ _ _ ss _ _ hS2 (by simp;omega)).mono ?_;rw [hh];rintro e w1 ⟨rfl,hb1⟩;obtain ⟨hcb,hfb⟩:=bcell hb1;obtain ⟨qaa,qba,qca,qda⟩:=zs2 (show w.heap.size+1<w1.heap.size by have hzz:=hb1.size;(try simp at hzz);omega);(have hck:w1.cell? (ad.add k)=some (.string ss[k]):=(by rw [hb1.cell (by rw [block_of_add];simp;omega),World.cell?_alloc_lt _ _ _ (by rw [block_of_add];simp;omega),World.cell?_alloc_lt _ _ _ (by rw [block_of_add];omega)];exact hcell)))|(go_at_call 239;refine (i_WithStrip _ _ B _ _ _ ss _ _ _ (hS2.below (hb1.mono (by simp;omega))) (by omega) ha).mono ?_;rintro e w3 ⟨A3,c3,rfl,ho3,hb3⟩;obtain ⟨hcb3,hfb3⟩:=bcell hb3;obtain ⟨qea,qfa,qga,qha⟩:=zs2 (show w.heap.size+1<w3.heap.size by have hzz:=hb3.size;(try simp at hzz);omega)))
   refine bodyPost_ret (v:=.tuple #[.agg #[.int .i64 d,.int .i64 f,.slice A3 (putAt d f ss (k:Int) a).1.length c3],.bool (putAt d f ss (k:Int) a).2]) (by simp [results,Tryz.results190,go_sem, *]) rfl ?_
   rw [HP.out]
   exact ⟨A3,c3,rfl,own_up ho3 upr (by first|exact Nat.le_refl _|(simp;done)|omega|(simp;omega)|exact (‹_∧_∧Below _ _ _›).2.2.size),bel⟩
  ·have HP:=Lib.hid (exchRes_ne (d:=d) (f:=f) (b:=b) (a:=a) hkl he)
   have hbq:=beq_toList_false he
   clear hl he hk0 hk1
   go_enter Tryz.func190,Tryz.ntmps190
   go_wp2_with (first|(go_at_call 238;refine (i_hasStrip _ _ B _ _ _ ss _ _ hS2 (by simp;omega)).mono ?_;rw [hh];rintro e w1 ⟨rfl,hb1⟩;obtain ⟨hcb,hfb⟩:=bcell hb1;obtain ⟨qaa,qba,qca,qda⟩:=zs2 (show w.heap.size+1<w1.heap.size by have hzz:=hb1.size;(try simp at hzz);omega);(have hck:w1.cell? (ad.add k)=some (.string ss[k]):=(by rw [hb1.cell (by rw [block_of_add];simp;omega),World.cell?_alloc_lt _ _ _ (by rw [block_of_add];simp;omega),World.cell?_alloc_lt _ _ _ (by rw [block_of_add];omega)];exact hcell)))|(go_at_call 122;refine (i_copied _ _ B _ _ _ ss _ (hS2.below (hb1.mono (by simp;omega))) (by first|omega|(simp;omega))).mono ?_;rintro e w3 ⟨A3,c3,rfl,ho3,hb3⟩;obtain ⟨hcb3,hfb3⟩:=bcell hb3;obtain ⟨qea,qfa,qga,qha⟩:=zs2 (show w.heap.size+1<w3.heap.size by have hzz:=hb3.size;(try simp at hzz);omega)))
   refine bodyPost_ret (v:=.tuple #[.agg #[.int .i64 d,.int .i64 f,.slice A3 ss.length c3],.bool false]) (by simp [results,Tryz.results190,go_sem, *]) rfl ?_
   rw [HP.out]
   exact ⟨A3,c3,rfl,own_up ho3 upr (by first|exact Nat.le_refl _|(simp;done)|omega|(simp;omega)|exact (‹_∧_∧Below _ _ _›).2.2.size),bel⟩
theorem s_l37Replace (d f:Int) (B:Nat) (A:Option Addr) (n c:Nat) (ss:List ByteArray) (k:Int) (b a:ByteArray) (w:World) (hS:Strs w B A n ss) (hB:B≤w.heap.size) (ha:a.size≤16777216) :
  Calls Tryz.prog 203 #[.agg #[.int .i64 d,.int .i64 f,.slice A n c],.int .i64 k,.string b,.string a] w (FreshCardB w.heap.size d f (exchRes d f ss k b a).1 (exchRes d f ss k b a).2 w):=by
 have hn:=hS.nb
 have hl:=hS.len
 have hS2:=(hS.alloc hB (.cells #[.int .i64 d,.int .i64 f,.slice A n c] 26)).alloc (by simp;omega) (.cells #[.int .i64 0,.int .i64 0,.slice none 0 0] 26)
 have HL:=Lib.hid hl
 cases hh:(cardOk d f ss&&inB k 0 ((n:Int) - 1))
 ·have HP:=Lib.hid (exchRes_no (d:=d) (f:=f) (ss:=ss) (k:=k) (b:=b) (a:=a) (by rw [hl];exact hh))
  clear hl
  cases hc0:cardOk d f ss
  ·have hk:Hid True:=trivial
   clear hk
   clear hh
   go_enter Tryz.func203,Tryz.ntmps203
   go_wp2_with (first|(go_at_call 97;refine (s_CardOk _ _ _ _ _ ss _ (hS2.more (by simp;omega))).mono ?_;rw [hc0];rintro e w1 ⟨rfl,hb1⟩;obtain ⟨hcb,hfb⟩:=bcell hb1;obtain ⟨qaa,qba,qca,qda⟩:=zs2 (show w.heap.size+1<w1.heap.size by have hzz:=hb1.size;(try simp at hzz);omega))|(go_at_call 181;refine (s_l05Copy _ _ B _ _ _ ss _ (hS2.below (hb1.mono (by simp;omega))) (by first|omega|(simp;omega))).mono ?_;rintro e w3 ⟨A3,c3,rfl,ho3,hb3⟩;obtain ⟨hcb3,hfb3⟩:=bcell hb3;obtain ⟨qea,qfa,qga,qha⟩:=zs2 (show w.heap.size+1<w3.heap.size by have hzz:=hb3.size;(try simp at hzz);omega)))
   refine bodyPost_ret (v:=.tuple #[.agg #[.int .i64 d,.int .i64 f,.slice A3 ss.length c3],.bool false]) (by simp [results,Tryz.results203,go_sem, *]) rfl ?_
   rw [HP.out]
   exact ⟨A3,c3,rfl,own_up ho3 upr (by first|exact Nat.le_refl _|(simp;done)|omega|(simp;omega)|exact (‹_∧_∧Below _ _ _›).2.2.size),bel⟩
  ·have hk:inB k 0 ((n:Int) - 1)=false:=by simpa [hc0] using hh
   clear hh
   go_enter Tryz.func203,Tryz.ntmps203
   go_wp2_with (first|(go_at_call 97;refine (s_CardOk _ _ _ _ _ ss _ (hS2.more (by simp;omega))).mono ?_;rw [hc0];rintro e w1 ⟨rfl,hb1⟩;obtain ⟨hcb,hfb⟩:=bcell hb1;obtain ⟨qaa,qba,qca,qda⟩:=zs2 (show w.heap.size+1<w1.heap.size by have hzz:=hb1.size;(try simp at hzz);omega))|(go_at_call 95;refine (s_l01In _ _ _ _).mono ?_;rw [hk];rintro e w' ⟨rfl,rfl⟩)|(go_at_call 181;refine (s_l05Copy _ _ B _ _ _ ss _ (hS2.below (hb1.mono (by simp;omega))) (by first|omega|(simp;omega))).mono ?_;rintro e w3 ⟨A3,c3,rfl,ho3,hb3⟩;obtain ⟨hcb3,hfb3⟩:=bcell hb3;obtain ⟨qea,qfa,qga,qha⟩:=zs2 (show w.heap.size+1<w3.heap.size by have hzz:=hb3.size;(try simp at hzz);omega)))
   refine bodyPost_ret (v:=.tuple #[.agg #[.int .i64 d,.int .i64 f,.slice A3 ss.length c3],.bool false]) (by simp [results,Tryz.results203,go_sem, *]) rfl ?_
   rw [HP.out]
   exact ⟨A3,c3,rfl,own_up ho3 upr (by first|exact Nat.le_refl _|(simp;done)|omega|(simp;omega)|exact (‹_∧_∧Below _ _ _›).2.2.size),bel⟩
 ·obtain ⟨hc0,hk⟩:cardOk d f ss=true∧inB k 0 ((n:Int) - 1)=true:=by simpa using hh
  obtain ⟨hk0,hk1⟩:=inB_iff.1 hk
  obtain ⟨k,rfl⟩:=Int.eq_ofNat_of_zero_le hk0
  have hkn:k<n:=by omega
  obtain ⟨hkl,ad,rfl,hab,hcell,hsz⟩:=hS.at_ hkn
  have hadn0:ad.block≠w.heap.size:=by omega
  have hadl:ad.block<w.heap.size:=by omega
  have hS4:=hS2.at_ hkn
  by_cases he:ss[k]=b
  ·have HP:=Lib.hid (exchRes_eq (d:=d) (f:=f) (b:=b) (a:=a) hkl (by rw [hl];exact hh) he)
   have hbq:=beq_toList_true he
   clear hl he hk0 hk1
   go_enter Tryz.func203,Tryz.ntmps203
   go_wp2_with (first|(go_at_call 97;refine (s_CardOk _ _ _ _ _ ss _ (hS2.more (by simp;omega))).mono ?_;rw [hc0];rintro e w1 ⟨rfl,hb1⟩;obtain ⟨hcb,hfb⟩:=bcell hb1;obtain ⟨qaa,qba,qca,qda⟩:=zs2 (show w.heap.size+1<w1.heap.size by have hzz:=hb1.size;(try simp at hzz);omega);(have hck:w1.cell? (ad.add k)=some (.string ss[k]):=(by rw [hb1.cell (by rw [block_of_add];simp;omega),World.cell?_alloc_lt _ _ _ (by rw [block_of_add];simp;omega),World.cell?_alloc_lt _ _ _ (by rw [block_of_add];omega)];exact hcell)))|(go_at_call 95;refine (s_l01In _ _ _ _).mono ?_;rw [hk];rintro e w' ⟨rfl,rfl⟩)|(go_at_call 248;refine (s_WithStrip _ _ B _ _ _ ss _ _ _ (hS2.below (hb1.mono (by simp;omega))) (by omega) ha).mono ?_;rintro e w3 ⟨A3,c3,rfl,ho3,hb3⟩;obtain ⟨hcb3,hfb3⟩:=bcell hb3;obtain ⟨qea,qfa,qga,qha⟩:=zs2 (show w.heap.size+1<w3.heap.size by have hzz:=hb3.size;(try simp at hzz);omega)))
   refine bodyPost_ret (v:=.tuple #[.agg #[.int .i64 d,.int .i64 f,.slice A3 (putAt d f ss (k:Int) a).1.length c3],.bool (putAt d f ss (k:Int) a).2]) (by simp [results,Tryz.results203,go_sem, *]) rfl ?_
   rw [HP.out]
   exact ⟨A3,c3,rfl,own_up ho3 upr (by first|exact Nat.le_refl _|(simp;done)|omega|(simp;omega)|exact (‹_∧_∧Below _ _ _›).2.2.size),bel⟩
  ·have HP:=Lib.hid (exchRes_ne (d:=d) (f:=f) (b:=b) (a:=a) hkl he)
   have hbq:=beq_toList_false he
   clear hl he hk0 hk1
   go_enter Tryz.func203,Tryz.ntmps203
   go_wp2_with (first|(go_at_call 97;refine (s_CardOk _ _ _ _ _ ss _ (hS2.more (by simp;omega))).mono ?_;rw [hc0];rintro e w1 ⟨rfl,hb1⟩;obtain ⟨hcb,hfb⟩:=bcell hb1;obtain ⟨qaa,qba,qca,qda⟩:=zs2 (show w.heap.size+1<w1.heap.size by have hzz:=hb1.size;(try simp at hzz);omega);(have hck:w1.cell? (ad.add k)=some (.string ss[k]):=(by rw [hb1.cell (by rw [block_of_add];simp;omega),World.cell?_alloc_lt _ _ _ (by rw [block_of_add];simp;omega),World.cell?_alloc_lt _ _ _ (by rw [block_of_add];omega)];exact hcell)))|(go_at_call 95;refine (s_l01In _ _ _ _).mono ?_;rw [hk];rintro e w' ⟨rfl,rfl⟩)|(go_at_call 181;refine (s_l05Copy _ _ B _ _ _ ss _ (hS2.below (hb1.mono (by simp;omega))) (by first|omega|(simp;omega))).mono ?_;rintro e w3 ⟨A3,c3,rfl,ho3,hb3⟩;obtain ⟨hcb3,hfb3⟩:=bcell hb3;obtain ⟨qea,qfa,qga,qha⟩:=zs2 (show w.heap.size+1<w3.heap.size by have hzz:=hb3.size;(try simp at hzz);omega)))
   refine bodyPost_ret (v:=.tuple #[.agg #[.int .i64 d,.int .i64 f,.slice A3 ss.length c3],.bool false]) (by simp [results,Tryz.results203,go_sem, *]) rfl ?_
   rw [HP.out]
   exact ⟨A3,c3,rfl,own_up ho3 upr (by first|exact Nat.le_refl _|(simp;done)|omega|(simp;omega)|exact (‹_∧_∧Below _ _ _›).2.2.size),bel⟩
theorem i_StepOn (d f:Int) (B:Nat) (A:Option Addr) (n c:Nat) (ss:List ByteArray) (K F L T I:Int) (b a:ByteArray) (w:World) (hS:Strs w B A n ss) (hB:B≤w.heap.size) (hbz:b.size≤16777216) (haz:a.size≤16777216) :
  Calls Tryz.prog 134 #[.agg #[.int .i64 d,.int .i64 f,.slice A n c],.agg #[.int .i64 K,.int .i64 F,.int .i64 L,.int .i64 T,.int .i64 I,.string b,.string a]] w (FreshCardB w.heap.size d f (stepRes true d f ss K F L T I b a).1 (stepRes true d f ss K F L T I b a).2 w):=by
 have hn:=hS.nb
 have hS2:=((hS.alloc hB (.cells #[.int .i64 d,.int .i64 f,.slice A n c] 26)).alloc (by simp;omega) (.cells #[.int .i64 K,.int .i64 F,.int .i64 L,.int .i64 T,.int .i64 I,.string b,.string a] 167)).alloc (by simp;omega) (.cells #[.int .i64 0,.int .i64 0,.slice none 0 0] 26)
 cases hp:plainStep K F L T I b a
 ·have HP:=Lib.hid (stepRes_no (on:=true) (d:=d) (f:=f) (ss:=ss) hp)
  go_enter Tryz.func134,Tryz.ntmps134
  go_wp2_with (first|(go_at_call 187;refine (i_isPlain _ _ _ _ _ _ _ _).mono ?_;rw [hp];rintro e w1 ⟨rfl,hb1⟩;obtain ⟨hcb,hfb⟩:=bcell hb1;obtain ⟨qaa,qba,qca,qda,qia,qja⟩:=zs3 (show w.heap.size+1+1<w1.heap.size by have hzz:=hb1.size;(try simp at hzz);omega))|(go_at_call 122;refine (i_copied _ _ B _ _ _ ss _ (hS2.below (hb1.mono (by simp;omega))) (by first|omega|(simp;omega))).mono ?_;rintro e w3 ⟨A3,c3,rfl,ho3,hb3⟩;obtain ⟨hcb3,hfb3⟩:=bcell hb3;obtain ⟨qea,qfa,qga,qha,qka,qla⟩:=zs3 (show w.heap.size+1+1<w3.heap.size by have hzz:=hb3.size;(try simp at hzz);omega)))
  refine bodyPost_ret (v:=.tuple #[.agg #[.int .i64 d,.int .i64 f,.slice A3 ss.length c3],.bool false]) (by simp [results,Tryz.results134,go_sem, *]) rfl ?_
  rw [HP.out]
  exact ⟨A3,c3,rfl,own_up ho3 upr (by first|exact Nat.le_refl _|(simp;done)|omega|(simp;omega)|exact (‹_∧_∧Below _ _ _›).2.2.size),bel⟩
 ·rcases plain_iff hp with h|h|h
  ·subst h
   have HP:Hid (stepRes true d f ss 1 F L T I b a=boxRes 100 d f ss F L T):=by unfold Hid stepRes;rw [hp];simp
   go_enter Tryz.func134,Tryz.ntmps134
   go_wp2_with (first|(go_at_call 187;refine (i_isPlain _ _ _ _ _ _ _ _).mono ?_;rw [hp];rintro e w1 ⟨rfl,hb1⟩;obtain ⟨hcb,hfb⟩:=bcell hb1;obtain ⟨qaa,qba,qca,qda,qia,qja⟩:=zs3 (show w.heap.size+1+1<w1.heap.size by have hzz:=hb1.size;(try simp at hzz);omega))|(go_at_call 188;refine (i_AddBox _ _ B _ _ _ ss _ _ _ _ (hS2.below (hb1.mono (by simp;omega))) (by first|omega|(simp;omega))).mono ?_;rintro e w3 ⟨A3,c3,rfl,ho3,hb3⟩;obtain ⟨hcb3,hfb3⟩:=bcell hb3;obtain ⟨qea,qfa,qga,qha,qka,qla⟩:=zs3 (show w.heap.size+1+1<w3.heap.size by have hzz:=hb3.size;(try simp at hzz);omega)))
   refine bodyPost_ret (v:=.tuple #[.agg #[.int .i64 d,.int .i64 f,.slice A3 (boxRes 100 d f ss F L T).1.length c3],.bool (boxRes 100 d f ss F L T).2]) (by simp [results,Tryz.results134,go_sem, *]) rfl ?_
   rw [HP.out]
   exact ⟨A3,c3,rfl,own_up ho3 upr (by first|exact Nat.le_refl _|(simp;done)|omega|(simp;omega)|exact (‹_∧_∧Below _ _ _›).2.2.size),bel⟩
  ·subst h
   have HP:Hid (stepRes true d f ss 2 F L T I b a=boxRes 102 d f ss F L T):=by unfold Hid stepRes;rw [hp];simp
   go_enter Tryz.func134,Tryz.ntmps134
   go_wp2_with (first|(go_at_call 187;refine (i_isPlain _ _ _ _ _ _ _ _).mono ?_;rw [hp];rintro e w1 ⟨rfl,hb1⟩;obtain ⟨hcb,hfb⟩:=bcell hb1;obtain ⟨qaa,qba,qca,qda,qia,qja⟩:=zs3 (show w.heap.size+1+1<w1.heap.size by have hzz:=hb1.size;(try simp at hzz);omega))|(go_at_call 189;refine (i_TakeBox _ _ B _ _ _ ss _ _ _ _ (hS2.below (hb1.mono (by simp;omega))) (by first|omega|(simp;omega))).mono ?_;rintro e w3 ⟨A3,c3,rfl,ho3,hb3⟩;obtain ⟨hcb3,hfb3⟩:=bcell hb3;obtain ⟨qea,qfa,qga,qha,qka,qla⟩:=zs3 (show w.heap.size+1+1<w3.heap.size by have hzz:=hb3.size;(try simp at hzz);omega)))
   refine bodyPost_ret (v:=.tuple #[.agg #[.int .i64 d,.int .i64 f,.slice A3 (boxRes 102 d f ss F L T).1.length c3],.bool (boxRes 102 d f ss F L T).2]) (by simp [results,Tryz.results134,go_sem, *]) rfl ?_
   rw [HP.out]
   exact ⟨A3,c3,rfl,own_up ho3 upr (by first|exact Nat.le_refl _|(simp;done)|omega|(simp;omega)|exact (‹_∧_∧Below _ _ _›).2.2.size),bel⟩
  ·subst h
   have HP:Hid (stepRes true d f ss 3 F L T I b a=exchRes d f ss I b a):=by unfold Hid stepRes;rw [hp];simp
   go_enter Tryz.func134,Tryz.ntmps134
   go_wp2_with (first|(go_at_call 187;refine (i_isPlain _ _ _ _ _ _ _ _).mono ?_;rw [hp];rintro e w1 ⟨rfl,hb1⟩;obtain ⟨hcb,hfb⟩:=bcell hb1;obtain ⟨qaa,qba,qca,qda,qia,qja⟩:=zs3 (show w.heap.size+1+1<w1.heap.size by have hzz:=hb1.size;(try simp at hzz);omega))|(go_at_call 190;refine (i_exchange _ _ B _ _ _ ss _ _ _ _ (hS2.below (hb1.mono (by simp;omega))) (by first|omega|(simp;omega)) haz).mono ?_;rintro e w3 ⟨A3,c3,rfl,ho3,hb3⟩;obtain ⟨hcb3,hfb3⟩:=bcell hb3;obtain ⟨qea,qfa,qga,qha,qka,qla⟩:=zs3 (show w.heap.size+1+1<w3.heap.size by have hzz:=hb3.size;(try simp at hzz);omega)))
   refine bodyPost_ret (v:=.tuple #[.agg #[.int .i64 d,.int .i64 f,.slice A3 (exchRes d f ss I b a).1.length c3],.bool (exchRes d f ss I b a).2]) (by simp [results,Tryz.results134,go_sem, *]) rfl ?_
   rw [HP.out]
   exact ⟨A3,c3,rfl,own_up ho3 upr (by first|exact Nat.le_refl _|(simp;done)|omega|(simp;omega)|exact (‹_∧_∧Below _ _ _›).2.2.size),bel⟩
theorem s_StepOn (d f:Int) (B:Nat) (A:Option Addr) (n c:Nat) (ss:List ByteArray) (K F L T I:Int) (b a:ByteArray) (w:World) (hS:Strs w B A n ss) (hB:B≤w.heap.size) (hbz:b.size≤16777216) (haz:a.size≤16777216) :
  Calls Tryz.prog 147 #[.agg #[.int .i64 d,.int .i64 f,.slice A n c],.agg #[.int .i64 K,.int .i64 F,.int .i64 L,.int .i64 T,.int .i64 I,.string b,.string a]] w (FreshCardB w.heap.size d f (stepRes true d f ss K F L T I b a).1 (stepRes true d f ss K F L T I b a).2 w):=by
 have hn:=hS.nb
 have hS2:=((hS.alloc hB (.cells #[.int .i64 d,.int .i64 f,.slice A n c] 26)).alloc (by simp;omega) (.cells #[.int .i64 K,.int .i64 F,.int .i64 L,.int .i64 T,.int .i64 I,.string b,.string a] 167)).alloc (by simp;omega) (.cells #[.int .i64 0,.int .i64 0,.slice none 0 0] 26)
 cases hp:plainStep K F L T I b a
 ·have HP:=Lib.hid (stepRes_no (on:=true) (d:=d) (f:=f) (ss:=ss) hp)
  go_enter Tryz.func147,Tryz.ntmps147
  go_wp2_with (first|(go_at_call 200;refine (s_l37Plain _ _ _ _ _ _ _ _).mono ?_;rw [hp];rintro e w1 ⟨rfl,hb1⟩;obtain ⟨hcb,hfb⟩:=bcell hb1;obtain ⟨qaa,qba,qca,qda,qia,qja⟩:=zs3 (show w.heap.size+1+1<w1.heap.size by have hzz:=hb1.size;(try simp at hzz);omega))|(go_at_call 181;refine (s_l05Copy _ _ B _ _ _ ss _ (hS2.below (hb1.mono (by simp;omega))) (by first|omega|(simp;omega))).mono ?_;rintro e w3 ⟨A3,c3,rfl,ho3,hb3⟩;obtain ⟨hcb3,hfb3⟩:=bcell hb3;obtain ⟨qea,qfa,qga,qha,qka,qla⟩:=zs3 (show w.heap.size+1+1<w3.heap.size by have hzz:=hb3.size;(try simp at hzz);omega)))
  refine bodyPost_ret (v:=.tuple #[.agg #[.int .i64 d,.int .i64 f,.slice A3 ss.length c3],.bool false]) (by simp [results,Tryz.results147,go_sem, *]) rfl ?_
  rw [HP.out]
  exact ⟨A3,c3,rfl,own_up ho3 upr (by first|exact Nat.le_refl _|(simp;done)|omega|(simp;omega)|exact (‹_∧_∧Below _ _ _›).2.2.size),bel⟩
 ·rcases plain_iff hp with h|h|h
  ·subst h
   have HP:Hid (stepRes true d f ss 1 F L T I b a=boxRes 100 d f ss F L T):=by unfold Hid stepRes;rw [hp];simp
   go_enter Tryz.func147,Tryz.ntmps147
   go_wp2_with (first|(go_at_call 200;refine (s_l37Plain _ _ _ _ _ _ _ _).mono ?_;rw [hp];rintro e w1 ⟨rfl,hb1⟩;obtain ⟨hcb,hfb⟩:=bcell hb1;obtain ⟨qaa,qba,qca,qda,qia,qja⟩:=zs3 (show w.heap.size+1+1<w1.heap.size by have hzz:=hb1.size;(try simp at hzz);omega))|(go_at_call 201;refine (s_AddBox _ _ B _ _ _ ss _ _ _ _ (hS2.below (hb1.mono (by simp;omega))) (by first|omega|(simp;omega))).mono ?_;rintro e w3 ⟨A3,c3,rfl,ho3,hb3⟩;obtain ⟨hcb3,hfb3⟩:=bcell hb3;obtain ⟨qea,qfa,qga,qha,qka,qla⟩:=zs3 (show w.heap.size+1+1<w3.heap.size by have hzz:=hb3.size;(try simp at hzz);omega)))
   refine bodyPost_ret (v:=.tuple #[.agg #[.int .i64 d,.int .i64 f,.slice A3 (boxRes 100 d f ss F L T).1.length c3],.bool (boxRes 100 d f ss F L T).2]) (by simp [results,Tryz.results147,go_sem, *]) rfl ?_
   rw [HP.out]
   exact ⟨A3,c3,rfl,own_up ho3 upr (by first|exact Nat.le_refl _|(simp;done)|omega|(simp;omega)|exact (‹_∧_∧Below _ _ _›).2.2.size),bel⟩
  ·subst h
   have HP:Hid (stepRes true d f ss 2 F L T I b a=boxRes 102 d f ss F L T):=by unfold Hid stepRes;rw [hp];simp
   go_enter Tryz.func147,Tryz.ntmps147
   go_wp2_with (first|(go_at_call 200;refine (s_l37Plain _ _ _ _ _ _ _ _).mono ?_;rw [hp];rintro e w1 ⟨rfl,hb1⟩;obtain ⟨hcb,hfb⟩:=bcell hb1;obtain ⟨qaa,qba,qca,qda,qia,qja⟩:=zs3 (show w.heap.size+1+1<w1.heap.size by have hzz:=hb1.size;(try simp at hzz);omega))|(go_at_call 202;refine (s_TakeBox _ _ B _ _ _ ss _ _ _ _ (hS2.below (hb1.mono (by simp;omega))) (by first|omega|(simp;omega))).mono ?_;rintro e w3 ⟨A3,c3,rfl,ho3,hb3⟩;obtain ⟨hcb3,hfb3⟩:=bcell hb3;obtain ⟨qea,qfa,qga,qha,qka,qla⟩:=zs3 (show w.heap.size+1+1<w3.heap.size by have hzz:=hb3.size;(try simp at hzz);omega)))
   refine bodyPost_ret (v:=.tuple #[.agg #[.int .i64 d,.int .i64 f,.slice A3 (boxRes 102 d f ss F L T).1.length c3],.bool (boxRes 102 d f ss F L T).2]) (by simp [results,Tryz.results147,go_sem, *]) rfl ?_
   rw [HP.out]
   exact ⟨A3,c3,rfl,own_up ho3 upr (by first|exact Nat.le_refl _|(simp;done)|omega|(simp;omega)|exact (‹_∧_∧Below _ _ _›).2.2.size),bel⟩
  ·subst h
   have HP:Hid (stepRes true d f ss 3 F L T I b a=exchRes d f ss I b a):=by unfold Hid stepRes;rw [hp];simp
   go_enter Tryz.func147,Tryz.ntmps147
   go_wp2_with (first|(go_at_call 200;refine (s_l37Plain _ _ _ _ _ _ _ _).mono ?_;rw [hp];rintro e w1 ⟨rfl,hb1⟩;obtain ⟨hcb,hfb⟩:=bcell hb1;obtain ⟨qaa,qba,qca,qda,qia,qja⟩:=zs3 (show w.heap.size+1+1<w1.heap.size by have hzz:=hb1.size;(try simp at hzz);omega))|(go_at_call 203;refine (s_l37Replace _ _ B _ _ _ ss _ _ _ _ (hS2.below (hb1.mono (by simp;omega))) (by first|omega|(simp;omega)) haz).mono ?_;rintro e w3 ⟨A3,c3,rfl,ho3,hb3⟩;obtain ⟨hcb3,hfb3⟩:=bcell hb3;obtain ⟨qea,qfa,qga,qha,qka,qla⟩:=zs3 (show w.heap.size+1+1<w3.heap.size by have hzz:=hb3.size;(try simp at hzz);omega)))
   refine bodyPost_ret (v:=.tuple #[.agg #[.int .i64 d,.int .i64 f,.slice A3 (exchRes d f ss I b a).1.length c3],.bool (exchRes d f ss I b a).2]) (by simp [results,Tryz.results147,go_sem, *]) rfl ?_
   rw [HP.out]
   exact ⟨A3,c3,rfl,own_up ho3 upr (by first|exact Nat.le_refl _|(simp;done)|omega|(simp;omega)|exact (‹_∧_∧Below _ _ _›).2.2.size),bel⟩
theorem i_StepBack (d f:Int) (B:Nat) (A:Option Addr) (n c:Nat) (ss:List ByteArray) (K F L T I:Int) (b a:ByteArray) (w:World) (hS:Strs w B A n ss) (hB:B≤w.heap.size) (hbz:b.size≤16777216) (haz:a.size≤16777216) :
  Calls Tryz.prog 240 #[.agg #[.int .i64 d,.int .i64 f,.slice A n c],.agg #[.int .i64 K,.int .i64 F,.int .i64 L,.int .i64 T,.int .i64 I,.string b,.string a]] w (FreshCardB w.heap.size d f (stepRes false d f ss K F L T I b a).1 (stepRes false d f ss K F L T I b a).2 w):=by
 have hn:=hS.nb
 have hS2:=((hS.alloc hB (.cells #[.int .i64 d,.int .i64 f,.slice A n c] 26)).alloc (by simp;omega) (.cells #[.int .i64 K,.int .i64 F,.int .i64 L,.int .i64 T,.int .i64 I,.string b,.string a] 167)).alloc (by simp;omega) (.cells #[.int .i64 0,.int .i64 0,.slice none 0 0] 26)
 cases hp:plainStep K F L T I b a
 ·have HP:=Lib.hid (stepRes_no (on:=false) (d:=d) (f:=f) (ss:=ss) hp)
  go_enter Tryz.func240,Tryz.ntmps240
  go_wp2_with (first|(go_at_call 187;refine (i_isPlain _ _ _ _ _ _ _ _).mono ?_;rw [hp];rintro e w1 ⟨rfl,hb1⟩;obtain ⟨hcb,hfb⟩:=bcell hb1;obtain ⟨qaa,qba,qca,qda,qia,qja⟩:=zs3 (show w.heap.size+1+1<w1.heap.size by have hzz:=hb1.size;(try simp at hzz);omega))|(go_at_call 122;refine (i_copied _ _ B _ _ _ ss _ (hS2.below (hb1.mono (by simp;omega))) (by first|omega|(simp;omega))).mono ?_;rintro e w3 ⟨A3,c3,rfl,ho3,hb3⟩;obtain ⟨hcb3,hfb3⟩:=bcell hb3;obtain ⟨qea,qfa,qga,qha,qka,qla⟩:=zs3 (show w.heap.size+1+1<w3.heap.size by have hzz:=hb3.size;(try simp at hzz);omega)))
  refine bodyPost_ret (v:=.tuple #[.agg #[.int .i64 d,.int .i64 f,.slice A3 ss.length c3],.bool false]) (by simp [results,Tryz.results240,go_sem, *]) rfl ?_
  rw [HP.out]
  exact ⟨A3,c3,rfl,own_up ho3 upr (by first|exact Nat.le_refl _|(simp;done)|omega|(simp;omega)|exact (‹_∧_∧Below _ _ _›).2.2.size),bel⟩
 ·rcases plain_iff hp with h|h|h
  ·subst h
   have HP:Hid (stepRes false d f ss 1 F L T I b a=boxRes 102 d f ss F L T):=by unfold Hid stepRes;rw [hp];simp
   go_enter Tryz.func240,Tryz.ntmps240
   go_wp2_with (first|(go_at_call 187;refine (i_isPlain _ _ _ _ _ _ _ _).mono ?_;rw [hp];rintro e w1 ⟨rfl,hb1⟩;obtain ⟨hcb,hfb⟩:=bcell hb1;obtain ⟨qaa,qba,qca,qda,qia,qja⟩:=zs3 (show w.heap.size+1+1<w1.heap.size by have hzz:=hb1.size;(try simp at hzz);omega))|(go_at_call 189;refine (i_TakeBox _ _ B _ _ _ ss _ _ _ _ (hS2.below (hb1.mono (by simp;omega))) (by first|omega|(simp;omega))).mono ?_;rintro e w3 ⟨A3,c3,rfl,ho3,hb3⟩;obtain ⟨hcb3,hfb3⟩:=bcell hb3;obtain ⟨qea,qfa,qga,qha,qka,qla⟩:=zs3 (show w.heap.size+1+1<w3.heap.size by have hzz:=hb3.size;(try simp at hzz);omega)))
   refine bodyPost_ret (v:=.tuple #[.agg #[.int .i64 d,.int .i64 f,.slice A3 (boxRes 102 d f ss F L T).1.length c3],.bool (boxRes 102 d f ss F L T).2]) (by simp [results,Tryz.results240,go_sem, *]) rfl ?_
   rw [HP.out]
   exact ⟨A3,c3,rfl,own_up ho3 upr (by first|exact Nat.le_refl _|(simp;done)|omega|(simp;omega)|exact (‹_∧_∧Below _ _ _›).2.2.size),bel⟩
  ·subst h
   have HP:Hid (stepRes false d f ss 2 F L T I b a=boxRes 100 d f ss F L T):=by unfold Hid stepRes;rw [hp];simp
   go_enter Tryz.func240,Tryz.ntmps240
   go_wp2_with (first|(go_at_call 187;refine (i_isPlain _ _ _ _ _ _ _ _).mono ?_;rw [hp];rintro e w1 ⟨rfl,hb1⟩;obtain ⟨hcb,hfb⟩:=bcell hb1;obtain ⟨qaa,qba,qca,qda,qia,qja⟩:=zs3 (show w.heap.size+1+1<w1.heap.size by have hzz:=hb1.size;(try simp at hzz);omega))|(go_at_call 188;refine (i_AddBox _ _ B _ _ _ ss _ _ _ _ (hS2.below (hb1.mono (by simp;omega))) (by first|omega|(simp;omega))).mono ?_;rintro e w3 ⟨A3,c3,rfl,ho3,hb3⟩;obtain ⟨hcb3,hfb3⟩:=bcell hb3;obtain ⟨qea,qfa,qga,qha,qka,qla⟩:=zs3 (show w.heap.size+1+1<w3.heap.size by have hzz:=hb3.size;(try simp at hzz);omega)))
   refine bodyPost_ret (v:=.tuple #[.agg #[.int .i64 d,.int .i64 f,.slice A3 (boxRes 100 d f ss F L T).1.length c3],.bool (boxRes 100 d f ss F L T).2]) (by simp [results,Tryz.results240,go_sem, *]) rfl ?_
   rw [HP.out]
   exact ⟨A3,c3,rfl,own_up ho3 upr (by first|exact Nat.le_refl _|(simp;done)|omega|(simp;omega)|exact (‹_∧_∧Below _ _ _›).2.2.size),bel⟩
  ·subst h
   have HP:Hid (stepRes false d f ss 3 F L T I b a=exchRes d f ss I a b):=by unfold Hid stepRes;rw [hp];simp
   go_enter Tryz.func240,Tryz.ntmps240
   go_wp2_with (first|(go_at_call 187;refine (i_isPlain _ _ _ _ _ _ _ _).mono ?_;rw [hp];rintro e w1 ⟨rfl,hb1⟩;obtain ⟨hcb,hfb⟩:=bcell hb1;obtain ⟨qaa,qba,qca,qda,qia,qja⟩:=zs3 (show w.heap.size+1+1<w1.heap.size by have hzz:=hb1.size;(try simp at hzz);omega))|(go_at_call 190;refine (i_exchange _ _ B _ _ _ ss _ _ _ _ (hS2.below (hb1.mono (by simp;omega))) (by first|omega|(simp;omega)) hbz).mono ?_;rintro e w3 ⟨A3,c3,rfl,ho3,hb3⟩;obtain ⟨hcb3,hfb3⟩:=bcell hb3;obtain ⟨qea,qfa,qga,qha,qka,qla⟩:=zs3 (show w.heap.size+1+1<w3.heap.size by have hzz:=hb3.size;(try simp at hzz);omega)))
   refine bodyPost_ret (v:=.tuple #[.agg #[.int .i64 d,.int .i64 f,.slice A3 (exchRes d f ss I a b).1.length c3],.bool (exchRes d f ss I a b).2]) (by simp [results,Tryz.results240,go_sem, *]) rfl ?_
   rw [HP.out]
   exact ⟨A3,c3,rfl,own_up ho3 upr (by first|exact Nat.le_refl _|(simp;done)|omega|(simp;omega)|exact (‹_∧_∧Below _ _ _›).2.2.size),bel⟩
theorem boxRes_ok (c:UInt8) (d f:Int) (ss:List ByteArray) (F L T:Int) (m:Nat) (hl:ss.length≤m) (hs:∀ x∈ss,x.size≤16777216):(boxRes c d f ss F L T).1.length≤m∧∀ x∈(boxRes c d f ss F L T).1,x.size≤16777216:=by
 unfold boxRes
 split
 ·exact ⟨by show (flips _ _ _ _).length≤_;rw [flips_len];omega,fun x hx=>flips_size (c:=c) hs (‹_∧_›).2 x hx⟩
 ·exact ⟨hl,hs⟩
theorem putAt_ok (d f:Int) (ss:List ByteArray) (k:Int) (s:ByteArray) (m:Nat) (hl:ss.length≤m) (hs:∀ x∈ss,x.size≤16777216) (h:s.size≤16777216):(putAt d f ss k s).1.length≤m∧∀ x∈(putAt d f ss k s).1,x.size≤16777216:=by
 unfold putAt
 split
 ·refine ⟨by show (ss.set _ _).length≤_;rw [List.length_set];omega,fun x hx=>?_⟩
  rcases List.mem_or_eq_of_mem_set hx with h1|h1
  ·exact hs x h1
  ·rw [h1];exact h
 ·exact ⟨hl,hs⟩
theorem exchRes_ok (d f:Int) (ss:List ByteArray) (k:Int) (b a:ByteArray) (m:Nat) (hl:ss.length≤m) (hs:∀ x∈ss,x.size≤16777216) (h:a.size≤16777216):(exchRes d f ss k b a).1.length≤m∧∀ x∈(exchRes d f ss k b a).1,x.size≤16777216:=by
 unfold exchRes
 split
 ·exact putAt_ok d f ss k a m hl hs h
 ·exact ⟨hl,hs⟩
theorem stepRes_ok (on:Bool) (d f:Int) (ss:List ByteArray) (K F L T I:Int) (b a:ByteArray) (m:Nat) (hl:ss.length≤m) (hm:m≤16777216) (hs:∀ x∈ss,x.size≤16777216) (hb:b.size≤16777216) (ha:a.size≤16777216) :
  (stepRes on d f ss K F L T I b a).1.length≤m∧∀ x∈(stepRes on d f ss K F L T I b a).1,x.size≤16777216:=by
 unfold stepRes
 split
 ·exact ⟨hl,hs⟩
 ·split
  ·exact boxRes_ok _ d f ss F L T m hl hs
  ·split
   ·exact boxRes_ok _ d f ss F L T m hl hs
   ·split
    ·exact exchRes_ok d f ss I b a m hl hs ha
    ·exact exchRes_ok d f ss I a b m hl hs hb
end Go.Proofs.YtlimlolciekimaaGreatDoor
