/- Contracts of the program's and the reference's functions (Step1, Step2). -/
import Derived.Test.YtlimlolciekimaaGreatDoorRows
import Derived.Test.YtlimlolciekimaaGreatDoorQRb
import Derived.Test.YtlimlolciekimaaGreatDoorQRa
import Derived.Test.YtlimlolciekimaaGreatDoorQRd
namespace Go.Proofs.YtlimlolciekimaaGreatDoor
set_option maxHeartbeats 1600000
open Go.ChangeShapes Go.WideShapes Go.ChangeAt Go.RowKit
set_option linter.unusedVariables false
set_option maxRecDepth 10000
def Zbo (K F L T I:Int) (b a:ByteArray):Bool :=
 if K=1∨K=2 then (I==0)&&(b.toList.isEmpty&&a.toList.isEmpty) else if K=3 then (F==0)&&((L==0)&&(T==0)) else false
theorem Zmg (F L T I:Int) (b a:ByteArray):Zbo 1 F L T I b a=((I==0)&&(b.toList.isEmpty&&a.toList.isEmpty)):=by simp [Zbo]
theorem ZmB (F L T I:Int) (b a:ByteArray):Zbo 2 F L T I b a=((I==0)&&(b.toList.isEmpty&&a.toList.isEmpty)):=by simp [Zbo]
theorem Zms (F L T I:Int) (b a:ByteArray):Zbo 3 F L T I b a=((F==0)&&((L==0)&&(T==0))):=by simp [Zbo]
theorem ZkR {K F L T I:Int} {b a:ByteArray} (h1:K≠1) (h2:K≠2) (h3:K≠3):Zbo K F L T I b a=false:=by simp [Zbo,h1,h2,h3]
theorem ZcJ (K F L T I:Int) (b a:ByteArray) (w:World) :
  Calls Tryz.prog 187 #[.agg #[.int .i64 K,.int .i64 F,.int .i64 L,.int .i64 T,.int .i64 I,.string b,.string a]] w fun e w'=>e=.returned (.bool (Zbo K F L T I b a))∧Below w.heap.size w w':=by
 by_cases h1:K=1
 ·subst h1
  rw [Zmg]
  cases hI:(I==0) <;> cases hb:b.toList.isEmpty <;> cases ha:a.toList.isEmpty <;>
  ·go_enter Tryz.func187,Tryz.ntmps187
   go_wp2
   go_ret
   refine ⟨Zo ?_,bel⟩;(first|rfl|(simp_all;done)|trace_state)
 ·by_cases h2:K=2
  ·subst h2
   rw [ZmB]
   clear h1
   cases hI:(I==0) <;> cases hb:b.toList.isEmpty <;> cases ha:a.toList.isEmpty <;>
   ·go_enter Tryz.func187,Tryz.ntmps187
    go_wp2
    go_ret
    refine ⟨Zo ?_,bel⟩;(first|rfl|(simp_all;done)|trace_state)
  ·by_cases h3:K=3
   ·subst h3
    rw [Zms]
    clear h1 h2
    cases hF:(F==0) <;> cases hL:(L==0) <;> cases hT:(T==0) <;>
    ·go_enter Tryz.func187,Tryz.ntmps187
     go_wp2
     go_ret
     refine ⟨Zo ?_,bel⟩;(first|rfl|(simp_all;done)|trace_state)
   ·have HP:=Lib.hid (ZkR (F:=F) (L:=L) (T:=T) (I:=I) (b:=b) (a:=a) h1 h2 h3)
    have e1:(K==1)=false:=by simpa using h1
    have e2:(K==2)=false:=by simpa using h2
    have e3:(K==3)=false:=by simpa using h3
    clear h1 h2 h3
    go_enter Tryz.func187,Tryz.ntmps187
    go_wp2
    go_ret
    exact ⟨Zo HP.out.symm,bel⟩
theorem Zcs (K F L T I:Int) (b a:ByteArray) (w:World) :
  Calls Tryz.prog 200 #[.agg #[.int .i64 K,.int .i64 F,.int .i64 L,.int .i64 T,.int .i64 I,.string b,.string a]] w fun e w'=>e=.returned (.bool (Zbo K F L T I b a))∧Below w.heap.size w w':=by
 by_cases h1:K=1
 ·subst h1
  rw [Zmg]
  cases hI:(I==0) <;> cases hb:b.toList.isEmpty <;> cases ha:a.toList.isEmpty <;>
  ·go_enter Tryz.func200,Tryz.ntmps200
   go_wp2
   go_ret
   refine ⟨Zo ?_,bel⟩;(first|rfl|(simp_all;done)|trace_state)
 ·by_cases h2:K=2
  ·subst h2
   rw [ZmB]
   clear h1
   cases hI:(I==0) <;> cases hb:b.toList.isEmpty <;> cases ha:a.toList.isEmpty <;>
   ·go_enter Tryz.func200,Tryz.ntmps200
    go_wp2
    go_ret
    refine ⟨Zo ?_,bel⟩;(first|rfl|(simp_all;done)|trace_state)
  ·by_cases h3:K=3
   ·subst h3
    rw [Zms]
    clear h1 h2
    cases hF:(F==0) <;> cases hL:(L==0) <;> cases hT:(T==0) <;>
    ·go_enter Tryz.func200,Tryz.ntmps200
     go_wp2
     go_ret
     refine ⟨Zo ?_,bel⟩;(first|rfl|(simp_all;done)|trace_state)
   ·have HP:=Lib.hid (ZkR (F:=F) (L:=L) (T:=T) (I:=I) (b:=b) (a:=a) h1 h2 h3)
    have e1:(K==1)=false:=by simpa using h1
    have e2:(K==2)=false:=by simpa using h2
    have e3:(K==3)=false:=by simpa using h3
    clear h1 h2 h3
    go_enter Tryz.func200,Tryz.ntmps200
    go_wp2
    go_ret
    exact ⟨Zo HP.out.symm,bel⟩
def ZaR (d f:Int) (ss:List ByteArray) (k:Int) (b a:ByteArray):List ByteArray×Bool :=
 if (Zac d f ss&&inB k 0 ((ss.length:Int) - 1))&&decide (ss.getD k.toNat ByteArray.empty=b) then ZbX d f ss k a else (ss,false)
def Zab (on:Bool) (d f:Int) (ss:List ByteArray) (K F L T I:Int) (b a:ByteArray):List ByteArray×Bool :=
 if Zbo K F L T I b a=false then (ss,false) else if K=1 then Zax (if on then 100 else 102) d f ss F L T else if K=2 then Zax (if on then 102 else 100) d f ss F L T
 else if on then ZaR d f ss I b a else ZaR d f ss I a b
theorem Zfb {K F L T I:Int} {b a:ByteArray} (h:Zbo K F L T I b a=true):K=1∨K=2∨K=3:=by
 unfold Zbo at h
 split at h
 ·omega
 ·split at h
  ·omega
  ·cases h
theorem Zev {on:Bool} {d f:Int} {ss:List ByteArray} {K F L T I:Int} {b a:ByteArray} (h:Zbo K F L T I b a=false):Zab on d f ss K F L T I b a=(ss,false):=by unfold Zab;rw [if_pos h]
theorem ZiB {d f:Int} {ss:List ByteArray} {k:Int} {b a:ByteArray} (h:(Zac d f ss&&inB k 0 ((ss.length:Int) - 1))=false):ZaR d f ss k b a=(ss,false):=by unfold ZaR;rw [h];rfl
theorem Zix {d f:Int} {ss:List ByteArray} {K:Nat} {b a:ByteArray} (hk:K<ss.length) (h:ss[K]≠b):ZaR d f ss K b a=(ss,false):=by
 unfold ZaR
 have:decide (ss.getD (K:Int).toNat ByteArray.empty=b)=false:=by
  simp only [Int.toNat_natCast,List.getD,List.getElem?_eq_getElem hk,Option.getD_some]
  simpa using h
 rw [this];simp
theorem ZhE {d f:Int} {ss:List ByteArray} {K:Nat} {b a:ByteArray} (hk:K<ss.length) (h0:(Zac d f ss&&inB (K:Int) 0 ((ss.length:Int) - 1))=true) (h:ss[K]=b):ZaR d f ss K b a=ZbX d f ss K a:=by
 unfold ZaR
 have:decide (ss.getD (K:Int).toNat ByteArray.empty=b)=true:=by
  simp only [Int.toNat_natCast,List.getD,List.getElem?_eq_getElem hk,Option.getD_some]
  simpa using h
 rw [h0,this];simp
theorem ZhI (d f:Int) (B:Nat) (A:Option Addr) (n c:Nat) (ss:List ByteArray) (k:Int) (b a:ByteArray) (w:World) (hS:ZaJ w B A n ss) (hB:B≤w.heap.size) (ha:a.size≤16777216) :
  Calls Tryz.prog 190 #[.agg #[.int .i64 d,.int .i64 f,.slice A n c],.int .i64 k,.string b,.string a] w (ZaT w.heap.size d f (ZaR d f ss k b a).1 (ZaR d f ss k b a).2 w):=by
 have hn:=hS.nb
 have hl:=hS.len
 have hS2:=(hS.alloc hB (.cells #[.int .i64 d,.int .i64 f,.slice A n c] 26)).alloc (by simp;omega) (.cells #[.int .i64 0,.int .i64 0,.slice none 0 0] 26)
 have HL:=Lib.hid hl
 cases hh:(Zac d f ss&&inB k 0 ((n:Int) - 1))
 ·have HP:=Lib.hid (ZiB (d:=d) (f:=f) (ss:=ss) (k:=k) (b:=b) (a:=a) (by rw [hl];exact hh))
  clear hl
  go_enter Tryz.func190,Tryz.ntmps190
  go_wp2_with (first|(go_at_call 238;refine (ZdQ _ _ B _ _ _ ss _ _ hS2 (by simp;omega)).mono ?_;rw [hh];rintro e w1 ⟨rfl,hb1⟩;obtain ⟨hcb,hfb⟩:=Zw hb1;obtain ⟨qaa,qba,qca,qda⟩:=zs2 (show w.heap.size+1<w1.heap.size by have hzz:=hb1.size;(try simp at hzz);omega))|(go_at_call 122;refine (Zbm _ _ B _ _ _ ss _ (hS2.below (hb1.mono (by simp;omega))) (by first|omega|(simp;omega))).mono ?_;rintro e w3 ⟨A3,c3,rfl,ho3,hb3⟩;obtain ⟨hcb3,hfb3⟩:=Zw hb3;obtain ⟨qea,qfa,qga,qha⟩:=zs2 (show w.heap.size+1<w3.heap.size by have hzz:=hb3.size;(try simp at hzz);omega)))
  refine bodyPost_ret (v:=.tuple #[.agg #[.int .i64 d,.int .i64 f,.slice A3 ss.length c3],.bool false]) (by simp [results,Tryz.results190,go_sem, *]) rfl ?_
  rw [HP.out]
  exact ⟨A3,c3,rfl,ZaD ho3 upr (by first|exact Nat.le_refl _|(simp;done)|omega|(simp;omega)|exact (‹_∧_∧Below _ _ _›).2.2.size),bel⟩
 ·obtain ⟨hc0,hk⟩:Zac d f ss=true∧inB k 0 ((n:Int) - 1)=true:=by simpa using hh
  obtain ⟨hk0,hk1⟩:=Zeu.1 hk
  obtain ⟨k,rfl⟩:=Int.eq_ofNat_of_zero_le hk0
  have hkn:k<n:=by omega
  obtain ⟨hkl,ad,rfl,hab,hcell,hsz⟩:=hS.at_ hkn
  have hadn0:ad.block≠w.heap.size:=by omega
  have hadl:ad.block<w.heap.size:=by omega
  have hS4:=hS2.at_ hkn
  by_cases he:ss[k]=b
  ·have HP:=Lib.hid (ZhE (d:=d) (f:=f) (b:=b) (a:=a) hkl (by rw [hl];exact hh) he)
   have hbq:=ZaU he
   clear hl he hk0 hk1
   go_enter Tryz.func190,Tryz.ntmps190
   go_wp2_with (first|(go_at_call 238;refine (ZdQ _ _ B _ _ _ ss _ _ hS2 (by simp;omega)).mono ?_;rw [hh];rintro e w1 ⟨rfl,hb1⟩;obtain ⟨hcb,hfb⟩:=Zw hb1;obtain ⟨qaa,qba,qca,qda⟩:=zs2 (show w.heap.size+1<w1.heap.size by have hzz:=hb1.size;(try simp at hzz);omega);(have hck:w1.cell? (ad.add k)=some (.string ss[k]):=(by rw [hb1.cell (by rw [Zn];simp;omega),World.cell?_alloc_lt _ _ _ (by rw [Zn];simp;omega),World.cell?_alloc_lt _ _ _ (by rw [Zn];omega)];exact hcell)))|(go_at_call 239;refine (Zks _ _ B _ _ _ ss _ _ _ (hS2.below (hb1.mono (by simp;omega))) (by omega) ha).mono ?_;rintro e w3 ⟨A3,c3,rfl,ho3,hb3⟩;obtain ⟨hcb3,hfb3⟩:=Zw hb3;obtain ⟨qea,qfa,qga,qha⟩:=zs2 (show w.heap.size+1<w3.heap.size by have hzz:=hb3.size;(try simp at hzz);omega)))
   refine bodyPost_ret (v:=.tuple #[.agg #[.int .i64 d,.int .i64 f,.slice A3 (ZbX d f ss (k:Int) a).1.length c3],.bool (ZbX d f ss (k:Int) a).2]) (by simp [results,Tryz.results190,go_sem, *]) rfl ?_
   rw [HP.out]
   exact ⟨A3,c3,rfl,ZaD ho3 upr (by first|exact Nat.le_refl _|(simp;done)|omega|(simp;omega)|exact (‹_∧_∧Below _ _ _›).2.2.size),bel⟩
  ·have HP:=Lib.hid (Zix (d:=d) (f:=f) (b:=b) (a:=a) hkl he)
   have hbq:=ZaN he
   clear hl he hk0 hk1
   go_enter Tryz.func190,Tryz.ntmps190
   go_wp2_with (first|(go_at_call 238;refine (ZdQ _ _ B _ _ _ ss _ _ hS2 (by simp;omega)).mono ?_;rw [hh];rintro e w1 ⟨rfl,hb1⟩;obtain ⟨hcb,hfb⟩:=Zw hb1;obtain ⟨qaa,qba,qca,qda⟩:=zs2 (show w.heap.size+1<w1.heap.size by have hzz:=hb1.size;(try simp at hzz);omega);(have hck:w1.cell? (ad.add k)=some (.string ss[k]):=(by rw [hb1.cell (by rw [Zn];simp;omega),World.cell?_alloc_lt _ _ _ (by rw [Zn];simp;omega),World.cell?_alloc_lt _ _ _ (by rw [Zn];omega)];exact hcell)))|(go_at_call 122;refine (Zbm _ _ B _ _ _ ss _ (hS2.below (hb1.mono (by simp;omega))) (by first|omega|(simp;omega))).mono ?_;rintro e w3 ⟨A3,c3,rfl,ho3,hb3⟩;obtain ⟨hcb3,hfb3⟩:=Zw hb3;obtain ⟨qea,qfa,qga,qha⟩:=zs2 (show w.heap.size+1<w3.heap.size by have hzz:=hb3.size;(try simp at hzz);omega)))
   refine bodyPost_ret (v:=.tuple #[.agg #[.int .i64 d,.int .i64 f,.slice A3 ss.length c3],.bool false]) (by simp [results,Tryz.results190,go_sem, *]) rfl ?_
   rw [HP.out]
   exact ⟨A3,c3,rfl,ZaD ho3 upr (by first|exact Nat.le_refl _|(simp;done)|omega|(simp;omega)|exact (‹_∧_∧Below _ _ _›).2.2.size),bel⟩
theorem Zga (d f:Int) (B:Nat) (A:Option Addr) (n c:Nat) (ss:List ByteArray) (k:Int) (b a:ByteArray) (w:World) (hS:ZaJ w B A n ss) (hB:B≤w.heap.size) (ha:a.size≤16777216) :
  Calls Tryz.prog 203 #[.agg #[.int .i64 d,.int .i64 f,.slice A n c],.int .i64 k,.string b,.string a] w (ZaT w.heap.size d f (ZaR d f ss k b a).1 (ZaR d f ss k b a).2 w):=by
 have hn:=hS.nb
 have hl:=hS.len
 have hS2:=(hS.alloc hB (.cells #[.int .i64 d,.int .i64 f,.slice A n c] 26)).alloc (by simp;omega) (.cells #[.int .i64 0,.int .i64 0,.slice none 0 0] 26)
 have HL:=Lib.hid hl
 cases hh:(Zac d f ss&&inB k 0 ((n:Int) - 1))
 ·have HP:=Lib.hid (ZiB (d:=d) (f:=f) (ss:=ss) (k:=k) (b:=b) (a:=a) (by rw [hl];exact hh))
  clear hl
  cases hc0:Zac d f ss
  ·have hk:Hid True:=trivial
   clear hk
   clear hh
   go_enter Tryz.func203,Tryz.ntmps203
   go_wp2_with (first|(go_at_call 97;refine (Zbp _ _ _ _ _ ss _ (hS2.more (by simp;omega))).mono ?_;rw [hc0];rintro e w1 ⟨rfl,hb1⟩;obtain ⟨hcb,hfb⟩:=Zw hb1;obtain ⟨qaa,qba,qca,qda⟩:=zs2 (show w.heap.size+1<w1.heap.size by have hzz:=hb1.size;(try simp at hzz);omega))|(go_at_call 181;refine (ZaZ _ _ B _ _ _ ss _ (hS2.below (hb1.mono (by simp;omega))) (by first|omega|(simp;omega))).mono ?_;rintro e w3 ⟨A3,c3,rfl,ho3,hb3⟩;obtain ⟨hcb3,hfb3⟩:=Zw hb3;obtain ⟨qea,qfa,qga,qha⟩:=zs2 (show w.heap.size+1<w3.heap.size by have hzz:=hb3.size;(try simp at hzz);omega)))
   refine bodyPost_ret (v:=.tuple #[.agg #[.int .i64 d,.int .i64 f,.slice A3 ss.length c3],.bool false]) (by simp [results,Tryz.results203,go_sem, *]) rfl ?_
   rw [HP.out]
   exact ⟨A3,c3,rfl,ZaD ho3 upr (by first|exact Nat.le_refl _|(simp;done)|omega|(simp;omega)|exact (‹_∧_∧Below _ _ _›).2.2.size),bel⟩
  ·have hk:inB k 0 ((n:Int) - 1)=false:=by simpa [hc0] using hh
   clear hh
   go_enter Tryz.func203,Tryz.ntmps203
   go_wp2_with (first|(go_at_call 97;refine (Zbp _ _ _ _ _ ss _ (hS2.more (by simp;omega))).mono ?_;rw [hc0];rintro e w1 ⟨rfl,hb1⟩;obtain ⟨hcb,hfb⟩:=Zw hb1;obtain ⟨qaa,qba,qca,qda⟩:=zs2 (show w.heap.size+1<w1.heap.size by have hzz:=hb1.size;(try simp at hzz);omega))|(go_at_call 95;refine (Zbc _ _ _ _).mono ?_;rw [hk];rintro e w' ⟨rfl,rfl⟩)|(go_at_call 181;refine (ZaZ _ _ B _ _ _ ss _ (hS2.below (hb1.mono (by simp;omega))) (by first|omega|(simp;omega))).mono ?_;rintro e w3 ⟨A3,c3,rfl,ho3,hb3⟩;obtain ⟨hcb3,hfb3⟩:=Zw hb3;obtain ⟨qea,qfa,qga,qha⟩:=zs2 (show w.heap.size+1<w3.heap.size by have hzz:=hb3.size;(try simp at hzz);omega)))
   refine bodyPost_ret (v:=.tuple #[.agg #[.int .i64 d,.int .i64 f,.slice A3 ss.length c3],.bool false]) (by simp [results,Tryz.results203,go_sem, *]) rfl ?_
   rw [HP.out]
   exact ⟨A3,c3,rfl,ZaD ho3 upr (by first|exact Nat.le_refl _|(simp;done)|omega|(simp;omega)|exact (‹_∧_∧Below _ _ _›).2.2.size),bel⟩
 ·obtain ⟨hc0,hk⟩:Zac d f ss=true∧inB k 0 ((n:Int) - 1)=true:=by simpa using hh
  obtain ⟨hk0,hk1⟩:=Zeu.1 hk
  obtain ⟨k,rfl⟩:=Int.eq_ofNat_of_zero_le hk0
  have hkn:k<n:=by omega
  obtain ⟨hkl,ad,rfl,hab,hcell,hsz⟩:=hS.at_ hkn
  have hadn0:ad.block≠w.heap.size:=by omega
  have hadl:ad.block<w.heap.size:=by omega
  have hS4:=hS2.at_ hkn
  by_cases he:ss[k]=b
  ·have HP:=Lib.hid (ZhE (d:=d) (f:=f) (b:=b) (a:=a) hkl (by rw [hl];exact hh) he)
   have hbq:=ZaU he
   clear hl he hk0 hk1
   go_enter Tryz.func203,Tryz.ntmps203
   go_wp2_with (first|(go_at_call 97;refine (Zbp _ _ _ _ _ ss _ (hS2.more (by simp;omega))).mono ?_;rw [hc0];rintro e w1 ⟨rfl,hb1⟩;obtain ⟨hcb,hfb⟩:=Zw hb1;obtain ⟨qaa,qba,qca,qda⟩:=zs2 (show w.heap.size+1<w1.heap.size by have hzz:=hb1.size;(try simp at hzz);omega);(have hck:w1.cell? (ad.add k)=some (.string ss[k]):=(by rw [hb1.cell (by rw [Zn];simp;omega),World.cell?_alloc_lt _ _ _ (by rw [Zn];simp;omega),World.cell?_alloc_lt _ _ _ (by rw [Zn];omega)];exact hcell)))|(go_at_call 95;refine (Zbc _ _ _ _).mono ?_;rw [hk];rintro e w' ⟨rfl,rfl⟩)|(go_at_call 248;refine (ZkA _ _ B _ _ _ ss _ _ _ (hS2.below (hb1.mono (by simp;omega))) (by omega) ha).mono ?_;rintro e w3 ⟨A3,c3,rfl,ho3,hb3⟩;obtain ⟨hcb3,hfb3⟩:=Zw hb3;obtain ⟨qea,qfa,qga,qha⟩:=zs2 (show w.heap.size+1<w3.heap.size by have hzz:=hb3.size;(try simp at hzz);omega)))
   refine bodyPost_ret (v:=.tuple #[.agg #[.int .i64 d,.int .i64 f,.slice A3 (ZbX d f ss (k:Int) a).1.length c3],.bool (ZbX d f ss (k:Int) a).2]) (by simp [results,Tryz.results203,go_sem, *]) rfl ?_
   rw [HP.out]
   exact ⟨A3,c3,rfl,ZaD ho3 upr (by first|exact Nat.le_refl _|(simp;done)|omega|(simp;omega)|exact (‹_∧_∧Below _ _ _›).2.2.size),bel⟩
  ·have HP:=Lib.hid (Zix (d:=d) (f:=f) (b:=b) (a:=a) hkl he)
   have hbq:=ZaN he
   clear hl he hk0 hk1
   go_enter Tryz.func203,Tryz.ntmps203
   go_wp2_with (first|(go_at_call 97;refine (Zbp _ _ _ _ _ ss _ (hS2.more (by simp;omega))).mono ?_;rw [hc0];rintro e w1 ⟨rfl,hb1⟩;obtain ⟨hcb,hfb⟩:=Zw hb1;obtain ⟨qaa,qba,qca,qda⟩:=zs2 (show w.heap.size+1<w1.heap.size by have hzz:=hb1.size;(try simp at hzz);omega);(have hck:w1.cell? (ad.add k)=some (.string ss[k]):=(by rw [hb1.cell (by rw [Zn];simp;omega),World.cell?_alloc_lt _ _ _ (by rw [Zn];simp;omega),World.cell?_alloc_lt _ _ _ (by rw [Zn];omega)];exact hcell)))|(go_at_call 95;refine (Zbc _ _ _ _).mono ?_;rw [hk];rintro e w' ⟨rfl,rfl⟩)|(go_at_call 181;refine (ZaZ _ _ B _ _ _ ss _ (hS2.below (hb1.mono (by simp;omega))) (by first|omega|(simp;omega))).mono ?_;rintro e w3 ⟨A3,c3,rfl,ho3,hb3⟩;obtain ⟨hcb3,hfb3⟩:=Zw hb3;obtain ⟨qea,qfa,qga,qha⟩:=zs2 (show w.heap.size+1<w3.heap.size by have hzz:=hb3.size;(try simp at hzz);omega)))
   refine bodyPost_ret (v:=.tuple #[.agg #[.int .i64 d,.int .i64 f,.slice A3 ss.length c3],.bool false]) (by simp [results,Tryz.results203,go_sem, *]) rfl ?_
   rw [HP.out]
   exact ⟨A3,c3,rfl,ZaD ho3 upr (by first|exact Nat.le_refl _|(simp;done)|omega|(simp;omega)|exact (‹_∧_∧Below _ _ _›).2.2.size),bel⟩
theorem ZkQ (d f:Int) (B:Nat) (A:Option Addr) (n c:Nat) (ss:List ByteArray) (K F L T I:Int) (b a:ByteArray) (w:World) (hS:ZaJ w B A n ss) (hB:B≤w.heap.size) (hbz:b.size≤16777216) (haz:a.size≤16777216) :
  Calls Tryz.prog 134 #[.agg #[.int .i64 d,.int .i64 f,.slice A n c],.agg #[.int .i64 K,.int .i64 F,.int .i64 L,.int .i64 T,.int .i64 I,.string b,.string a]] w (ZaT w.heap.size d f (Zab true d f ss K F L T I b a).1 (Zab true d f ss K F L T I b a).2 w):=by
 have hn:=hS.nb
 have hS2:=((hS.alloc hB (.cells #[.int .i64 d,.int .i64 f,.slice A n c] 26)).alloc (by simp;omega) (.cells #[.int .i64 K,.int .i64 F,.int .i64 L,.int .i64 T,.int .i64 I,.string b,.string a] 167)).alloc (by simp;omega) (.cells #[.int .i64 0,.int .i64 0,.slice none 0 0] 26)
 cases hp:Zbo K F L T I b a
 ·have HP:=Lib.hid (Zev (on:=true) (d:=d) (f:=f) (ss:=ss) hp)
  go_enter Tryz.func134,Tryz.ntmps134
  go_wp2_with (first|(go_at_call 187;refine (ZcJ _ _ _ _ _ _ _ _).mono ?_;rw [hp];rintro e w1 ⟨rfl,hb1⟩;obtain ⟨hcb,hfb⟩:=Zw hb1;obtain ⟨qaa,qba,qca,qda,qia,qja⟩:=zs3 (show w.heap.size+1+1<w1.heap.size by have hzz:=hb1.size;(try simp at hzz);omega))|(go_at_call 122;refine (Zbm _ _ B _ _ _ ss _ (hS2.below (hb1.mono (by simp;omega))) (by first|omega|(simp;omega))).mono ?_;rintro e w3 ⟨A3,c3,rfl,ho3,hb3⟩;obtain ⟨hcb3,hfb3⟩:=Zw hb3;obtain ⟨qea,qfa,qga,qha,qka,qla⟩:=zs3 (show w.heap.size+1+1<w3.heap.size by have hzz:=hb3.size;(try simp at hzz);omega)))
  refine bodyPost_ret (v:=.tuple #[.agg #[.int .i64 d,.int .i64 f,.slice A3 ss.length c3],.bool false]) (by simp [results,Tryz.results134,go_sem, *]) rfl ?_
  rw [HP.out]
  exact ⟨A3,c3,rfl,ZaD ho3 upr (by first|exact Nat.le_refl _|(simp;done)|omega|(simp;omega)|exact (‹_∧_∧Below _ _ _›).2.2.size),bel⟩
 ·rcases Zfb hp with h|h|h
  ·subst h
   have HP:Hid (Zab true d f ss 1 F L T I b a=Zax 100 d f ss F L T):=by unfold Hid Zab;rw [hp];simp
   go_enter Tryz.func134,Tryz.ntmps134
   go_wp2_with (first|(go_at_call 187;refine (ZcJ _ _ _ _ _ _ _ _).mono ?_;rw [hp];rintro e w1 ⟨rfl,hb1⟩;obtain ⟨hcb,hfb⟩:=Zw hb1;obtain ⟨qaa,qba,qca,qda,qia,qja⟩:=zs3 (show w.heap.size+1+1<w1.heap.size by have hzz:=hb1.size;(try simp at hzz);omega))|(go_at_call 188;refine (ZkS _ _ B _ _ _ ss _ _ _ _ (hS2.below (hb1.mono (by simp;omega))) (by first|omega|(simp;omega))).mono ?_;rintro e w3 ⟨A3,c3,rfl,ho3,hb3⟩;obtain ⟨hcb3,hfb3⟩:=Zw hb3;obtain ⟨qea,qfa,qga,qha,qka,qla⟩:=zs3 (show w.heap.size+1+1<w3.heap.size by have hzz:=hb3.size;(try simp at hzz);omega)))
   refine bodyPost_ret (v:=.tuple #[.agg #[.int .i64 d,.int .i64 f,.slice A3 (Zax 100 d f ss F L T).1.length c3],.bool (Zax 100 d f ss F L T).2]) (by simp [results,Tryz.results134,go_sem, *]) rfl ?_
   rw [HP.out]
   exact ⟨A3,c3,rfl,ZaD ho3 upr (by first|exact Nat.le_refl _|(simp;done)|omega|(simp;omega)|exact (‹_∧_∧Below _ _ _›).2.2.size),bel⟩
  ·subst h
   have HP:Hid (Zab true d f ss 2 F L T I b a=Zax 102 d f ss F L T):=by unfold Hid Zab;rw [hp];simp
   go_enter Tryz.func134,Tryz.ntmps134
   go_wp2_with (first|(go_at_call 187;refine (ZcJ _ _ _ _ _ _ _ _).mono ?_;rw [hp];rintro e w1 ⟨rfl,hb1⟩;obtain ⟨hcb,hfb⟩:=Zw hb1;obtain ⟨qaa,qba,qca,qda,qia,qja⟩:=zs3 (show w.heap.size+1+1<w1.heap.size by have hzz:=hb1.size;(try simp at hzz);omega))|(go_at_call 189;refine (Zjl _ _ B _ _ _ ss _ _ _ _ (hS2.below (hb1.mono (by simp;omega))) (by first|omega|(simp;omega))).mono ?_;rintro e w3 ⟨A3,c3,rfl,ho3,hb3⟩;obtain ⟨hcb3,hfb3⟩:=Zw hb3;obtain ⟨qea,qfa,qga,qha,qka,qla⟩:=zs3 (show w.heap.size+1+1<w3.heap.size by have hzz:=hb3.size;(try simp at hzz);omega)))
   refine bodyPost_ret (v:=.tuple #[.agg #[.int .i64 d,.int .i64 f,.slice A3 (Zax 102 d f ss F L T).1.length c3],.bool (Zax 102 d f ss F L T).2]) (by simp [results,Tryz.results134,go_sem, *]) rfl ?_
   rw [HP.out]
   exact ⟨A3,c3,rfl,ZaD ho3 upr (by first|exact Nat.le_refl _|(simp;done)|omega|(simp;omega)|exact (‹_∧_∧Below _ _ _›).2.2.size),bel⟩
  ·subst h
   have HP:Hid (Zab true d f ss 3 F L T I b a=ZaR d f ss I b a):=by unfold Hid Zab;rw [hp];simp
   go_enter Tryz.func134,Tryz.ntmps134
   go_wp2_with (first|(go_at_call 187;refine (ZcJ _ _ _ _ _ _ _ _).mono ?_;rw [hp];rintro e w1 ⟨rfl,hb1⟩;obtain ⟨hcb,hfb⟩:=Zw hb1;obtain ⟨qaa,qba,qca,qda,qia,qja⟩:=zs3 (show w.heap.size+1+1<w1.heap.size by have hzz:=hb1.size;(try simp at hzz);omega))|(go_at_call 190;refine (ZhI _ _ B _ _ _ ss _ _ _ _ (hS2.below (hb1.mono (by simp;omega))) (by first|omega|(simp;omega)) haz).mono ?_;rintro e w3 ⟨A3,c3,rfl,ho3,hb3⟩;obtain ⟨hcb3,hfb3⟩:=Zw hb3;obtain ⟨qea,qfa,qga,qha,qka,qla⟩:=zs3 (show w.heap.size+1+1<w3.heap.size by have hzz:=hb3.size;(try simp at hzz);omega)))
   refine bodyPost_ret (v:=.tuple #[.agg #[.int .i64 d,.int .i64 f,.slice A3 (ZaR d f ss I b a).1.length c3],.bool (ZaR d f ss I b a).2]) (by simp [results,Tryz.results134,go_sem, *]) rfl ?_
   rw [HP.out]
   exact ⟨A3,c3,rfl,ZaD ho3 upr (by first|exact Nat.le_refl _|(simp;done)|omega|(simp;omega)|exact (‹_∧_∧Below _ _ _›).2.2.size),bel⟩
theorem ZkN (d f:Int) (B:Nat) (A:Option Addr) (n c:Nat) (ss:List ByteArray) (K F L T I:Int) (b a:ByteArray) (w:World) (hS:ZaJ w B A n ss) (hB:B≤w.heap.size) (hbz:b.size≤16777216) (haz:a.size≤16777216) :
  Calls Tryz.prog 147 #[.agg #[.int .i64 d,.int .i64 f,.slice A n c],.agg #[.int .i64 K,.int .i64 F,.int .i64 L,.int .i64 T,.int .i64 I,.string b,.string a]] w (ZaT w.heap.size d f (Zab true d f ss K F L T I b a).1 (Zab true d f ss K F L T I b a).2 w):=by
 have hn:=hS.nb
 have hS2:=((hS.alloc hB (.cells #[.int .i64 d,.int .i64 f,.slice A n c] 26)).alloc (by simp;omega) (.cells #[.int .i64 K,.int .i64 F,.int .i64 L,.int .i64 T,.int .i64 I,.string b,.string a] 167)).alloc (by simp;omega) (.cells #[.int .i64 0,.int .i64 0,.slice none 0 0] 26)
 cases hp:Zbo K F L T I b a
 ·have HP:=Lib.hid (Zev (on:=true) (d:=d) (f:=f) (ss:=ss) hp)
  go_enter Tryz.func147,Tryz.ntmps147
  go_wp2_with (first|(go_at_call 200;refine (Zcs _ _ _ _ _ _ _ _).mono ?_;rw [hp];rintro e w1 ⟨rfl,hb1⟩;obtain ⟨hcb,hfb⟩:=Zw hb1;obtain ⟨qaa,qba,qca,qda,qia,qja⟩:=zs3 (show w.heap.size+1+1<w1.heap.size by have hzz:=hb1.size;(try simp at hzz);omega))|(go_at_call 181;refine (ZaZ _ _ B _ _ _ ss _ (hS2.below (hb1.mono (by simp;omega))) (by first|omega|(simp;omega))).mono ?_;rintro e w3 ⟨A3,c3,rfl,ho3,hb3⟩;obtain ⟨hcb3,hfb3⟩:=Zw hb3;obtain ⟨qea,qfa,qga,qha,qka,qla⟩:=zs3 (show w.heap.size+1+1<w3.heap.size by have hzz:=hb3.size;(try simp at hzz);omega)))
  refine bodyPost_ret (v:=.tuple #[.agg #[.int .i64 d,.int .i64 f,.slice A3 ss.length c3],.bool false]) (by simp [results,Tryz.results147,go_sem, *]) rfl ?_
  rw [HP.out]
  exact ⟨A3,c3,rfl,ZaD ho3 upr (by first|exact Nat.le_refl _|(simp;done)|omega|(simp;omega)|exact (‹_∧_∧Below _ _ _›).2.2.size),bel⟩
 ·rcases Zfb hp with h|h|h
  ·subst h
   have HP:Hid (Zab true d f ss 1 F L T I b a=Zax 100 d f ss F L T):=by unfold Hid Zab;rw [hp];simp
   go_enter Tryz.func147,Tryz.ntmps147
   go_wp2_with (first|(go_at_call 200;refine (Zcs _ _ _ _ _ _ _ _).mono ?_;rw [hp];rintro e w1 ⟨rfl,hb1⟩;obtain ⟨hcb,hfb⟩:=Zw hb1;obtain ⟨qaa,qba,qca,qda,qia,qja⟩:=zs3 (show w.heap.size+1+1<w1.heap.size by have hzz:=hb1.size;(try simp at hzz);omega))|(go_at_call 201;refine (Zj6 _ _ B _ _ _ ss _ _ _ _ (hS2.below (hb1.mono (by simp;omega))) (by first|omega|(simp;omega))).mono ?_;rintro e w3 ⟨A3,c3,rfl,ho3,hb3⟩;obtain ⟨hcb3,hfb3⟩:=Zw hb3;obtain ⟨qea,qfa,qga,qha,qka,qla⟩:=zs3 (show w.heap.size+1+1<w3.heap.size by have hzz:=hb3.size;(try simp at hzz);omega)))
   refine bodyPost_ret (v:=.tuple #[.agg #[.int .i64 d,.int .i64 f,.slice A3 (Zax 100 d f ss F L T).1.length c3],.bool (Zax 100 d f ss F L T).2]) (by simp [results,Tryz.results147,go_sem, *]) rfl ?_
   rw [HP.out]
   exact ⟨A3,c3,rfl,ZaD ho3 upr (by first|exact Nat.le_refl _|(simp;done)|omega|(simp;omega)|exact (‹_∧_∧Below _ _ _›).2.2.size),bel⟩
  ·subst h
   have HP:Hid (Zab true d f ss 2 F L T I b a=Zax 102 d f ss F L T):=by unfold Hid Zab;rw [hp];simp
   go_enter Tryz.func147,Tryz.ntmps147
   go_wp2_with (first|(go_at_call 200;refine (Zcs _ _ _ _ _ _ _ _).mono ?_;rw [hp];rintro e w1 ⟨rfl,hb1⟩;obtain ⟨hcb,hfb⟩:=Zw hb1;obtain ⟨qaa,qba,qca,qda,qia,qja⟩:=zs3 (show w.heap.size+1+1<w1.heap.size by have hzz:=hb1.size;(try simp at hzz);omega))|(go_at_call 202;refine (Zi7 _ _ B _ _ _ ss _ _ _ _ (hS2.below (hb1.mono (by simp;omega))) (by first|omega|(simp;omega))).mono ?_;rintro e w3 ⟨A3,c3,rfl,ho3,hb3⟩;obtain ⟨hcb3,hfb3⟩:=Zw hb3;obtain ⟨qea,qfa,qga,qha,qka,qla⟩:=zs3 (show w.heap.size+1+1<w3.heap.size by have hzz:=hb3.size;(try simp at hzz);omega)))
   refine bodyPost_ret (v:=.tuple #[.agg #[.int .i64 d,.int .i64 f,.slice A3 (Zax 102 d f ss F L T).1.length c3],.bool (Zax 102 d f ss F L T).2]) (by simp [results,Tryz.results147,go_sem, *]) rfl ?_
   rw [HP.out]
   exact ⟨A3,c3,rfl,ZaD ho3 upr (by first|exact Nat.le_refl _|(simp;done)|omega|(simp;omega)|exact (‹_∧_∧Below _ _ _›).2.2.size),bel⟩
  ·subst h
   have HP:Hid (Zab true d f ss 3 F L T I b a=ZaR d f ss I b a):=by unfold Hid Zab;rw [hp];simp
   go_enter Tryz.func147,Tryz.ntmps147
   go_wp2_with (first|(go_at_call 200;refine (Zcs _ _ _ _ _ _ _ _).mono ?_;rw [hp];rintro e w1 ⟨rfl,hb1⟩;obtain ⟨hcb,hfb⟩:=Zw hb1;obtain ⟨qaa,qba,qca,qda,qia,qja⟩:=zs3 (show w.heap.size+1+1<w1.heap.size by have hzz:=hb1.size;(try simp at hzz);omega))|(go_at_call 203;refine (Zga _ _ B _ _ _ ss _ _ _ _ (hS2.below (hb1.mono (by simp;omega))) (by first|omega|(simp;omega)) haz).mono ?_;rintro e w3 ⟨A3,c3,rfl,ho3,hb3⟩;obtain ⟨hcb3,hfb3⟩:=Zw hb3;obtain ⟨qea,qfa,qga,qha,qka,qla⟩:=zs3 (show w.heap.size+1+1<w3.heap.size by have hzz:=hb3.size;(try simp at hzz);omega)))
   refine bodyPost_ret (v:=.tuple #[.agg #[.int .i64 d,.int .i64 f,.slice A3 (ZaR d f ss I b a).1.length c3],.bool (ZaR d f ss I b a).2]) (by simp [results,Tryz.results147,go_sem, *]) rfl ?_
   rw [HP.out]
   exact ⟨A3,c3,rfl,ZaD ho3 upr (by first|exact Nat.le_refl _|(simp;done)|omega|(simp;omega)|exact (‹_∧_∧Below _ _ _›).2.2.size),bel⟩
theorem ZlN (d f:Int) (B:Nat) (A:Option Addr) (n c:Nat) (ss:List ByteArray) (K F L T I:Int) (b a:ByteArray) (w:World) (hS:ZaJ w B A n ss) (hB:B≤w.heap.size) (hbz:b.size≤16777216) (haz:a.size≤16777216) :
  Calls Tryz.prog 240 #[.agg #[.int .i64 d,.int .i64 f,.slice A n c],.agg #[.int .i64 K,.int .i64 F,.int .i64 L,.int .i64 T,.int .i64 I,.string b,.string a]] w (ZaT w.heap.size d f (Zab false d f ss K F L T I b a).1 (Zab false d f ss K F L T I b a).2 w):=by
 have hn:=hS.nb
 have hS2:=((hS.alloc hB (.cells #[.int .i64 d,.int .i64 f,.slice A n c] 26)).alloc (by simp;omega) (.cells #[.int .i64 K,.int .i64 F,.int .i64 L,.int .i64 T,.int .i64 I,.string b,.string a] 167)).alloc (by simp;omega) (.cells #[.int .i64 0,.int .i64 0,.slice none 0 0] 26)
 cases hp:Zbo K F L T I b a
 ·have HP:=Lib.hid (Zev (on:=false) (d:=d) (f:=f) (ss:=ss) hp)
  go_enter Tryz.func240,Tryz.ntmps240
  go_wp2_with (first|(go_at_call 187;refine (ZcJ _ _ _ _ _ _ _ _).mono ?_;rw [hp];rintro e w1 ⟨rfl,hb1⟩;obtain ⟨hcb,hfb⟩:=Zw hb1;obtain ⟨qaa,qba,qca,qda,qia,qja⟩:=zs3 (show w.heap.size+1+1<w1.heap.size by have hzz:=hb1.size;(try simp at hzz);omega))|(go_at_call 122;refine (Zbm _ _ B _ _ _ ss _ (hS2.below (hb1.mono (by simp;omega))) (by first|omega|(simp;omega))).mono ?_;rintro e w3 ⟨A3,c3,rfl,ho3,hb3⟩;obtain ⟨hcb3,hfb3⟩:=Zw hb3;obtain ⟨qea,qfa,qga,qha,qka,qla⟩:=zs3 (show w.heap.size+1+1<w3.heap.size by have hzz:=hb3.size;(try simp at hzz);omega)))
  refine bodyPost_ret (v:=.tuple #[.agg #[.int .i64 d,.int .i64 f,.slice A3 ss.length c3],.bool false]) (by simp [results,Tryz.results240,go_sem, *]) rfl ?_
  rw [HP.out]
  exact ⟨A3,c3,rfl,ZaD ho3 upr (by first|exact Nat.le_refl _|(simp;done)|omega|(simp;omega)|exact (‹_∧_∧Below _ _ _›).2.2.size),bel⟩
 ·rcases Zfb hp with h|h|h
  ·subst h
   have HP:Hid (Zab false d f ss 1 F L T I b a=Zax 102 d f ss F L T):=by unfold Hid Zab;rw [hp];simp
   go_enter Tryz.func240,Tryz.ntmps240
   go_wp2_with (first|(go_at_call 187;refine (ZcJ _ _ _ _ _ _ _ _).mono ?_;rw [hp];rintro e w1 ⟨rfl,hb1⟩;obtain ⟨hcb,hfb⟩:=Zw hb1;obtain ⟨qaa,qba,qca,qda,qia,qja⟩:=zs3 (show w.heap.size+1+1<w1.heap.size by have hzz:=hb1.size;(try simp at hzz);omega))|(go_at_call 189;refine (Zjl _ _ B _ _ _ ss _ _ _ _ (hS2.below (hb1.mono (by simp;omega))) (by first|omega|(simp;omega))).mono ?_;rintro e w3 ⟨A3,c3,rfl,ho3,hb3⟩;obtain ⟨hcb3,hfb3⟩:=Zw hb3;obtain ⟨qea,qfa,qga,qha,qka,qla⟩:=zs3 (show w.heap.size+1+1<w3.heap.size by have hzz:=hb3.size;(try simp at hzz);omega)))
   refine bodyPost_ret (v:=.tuple #[.agg #[.int .i64 d,.int .i64 f,.slice A3 (Zax 102 d f ss F L T).1.length c3],.bool (Zax 102 d f ss F L T).2]) (by simp [results,Tryz.results240,go_sem, *]) rfl ?_
   rw [HP.out]
   exact ⟨A3,c3,rfl,ZaD ho3 upr (by first|exact Nat.le_refl _|(simp;done)|omega|(simp;omega)|exact (‹_∧_∧Below _ _ _›).2.2.size),bel⟩
  ·subst h
   have HP:Hid (Zab false d f ss 2 F L T I b a=Zax 100 d f ss F L T):=by unfold Hid Zab;rw [hp];simp
   go_enter Tryz.func240,Tryz.ntmps240
   go_wp2_with (first|(go_at_call 187;refine (ZcJ _ _ _ _ _ _ _ _).mono ?_;rw [hp];rintro e w1 ⟨rfl,hb1⟩;obtain ⟨hcb,hfb⟩:=Zw hb1;obtain ⟨qaa,qba,qca,qda,qia,qja⟩:=zs3 (show w.heap.size+1+1<w1.heap.size by have hzz:=hb1.size;(try simp at hzz);omega))|(go_at_call 188;refine (ZkS _ _ B _ _ _ ss _ _ _ _ (hS2.below (hb1.mono (by simp;omega))) (by first|omega|(simp;omega))).mono ?_;rintro e w3 ⟨A3,c3,rfl,ho3,hb3⟩;obtain ⟨hcb3,hfb3⟩:=Zw hb3;obtain ⟨qea,qfa,qga,qha,qka,qla⟩:=zs3 (show w.heap.size+1+1<w3.heap.size by have hzz:=hb3.size;(try simp at hzz);omega)))
   refine bodyPost_ret (v:=.tuple #[.agg #[.int .i64 d,.int .i64 f,.slice A3 (Zax 100 d f ss F L T).1.length c3],.bool (Zax 100 d f ss F L T).2]) (by simp [results,Tryz.results240,go_sem, *]) rfl ?_
   rw [HP.out]
   exact ⟨A3,c3,rfl,ZaD ho3 upr (by first|exact Nat.le_refl _|(simp;done)|omega|(simp;omega)|exact (‹_∧_∧Below _ _ _›).2.2.size),bel⟩
  ·subst h
   have HP:Hid (Zab false d f ss 3 F L T I b a=ZaR d f ss I a b):=by unfold Hid Zab;rw [hp];simp
   go_enter Tryz.func240,Tryz.ntmps240
   go_wp2_with (first|(go_at_call 187;refine (ZcJ _ _ _ _ _ _ _ _).mono ?_;rw [hp];rintro e w1 ⟨rfl,hb1⟩;obtain ⟨hcb,hfb⟩:=Zw hb1;obtain ⟨qaa,qba,qca,qda,qia,qja⟩:=zs3 (show w.heap.size+1+1<w1.heap.size by have hzz:=hb1.size;(try simp at hzz);omega))|(go_at_call 190;refine (ZhI _ _ B _ _ _ ss _ _ _ _ (hS2.below (hb1.mono (by simp;omega))) (by first|omega|(simp;omega)) hbz).mono ?_;rintro e w3 ⟨A3,c3,rfl,ho3,hb3⟩;obtain ⟨hcb3,hfb3⟩:=Zw hb3;obtain ⟨qea,qfa,qga,qha,qka,qla⟩:=zs3 (show w.heap.size+1+1<w3.heap.size by have hzz:=hb3.size;(try simp at hzz);omega)))
   refine bodyPost_ret (v:=.tuple #[.agg #[.int .i64 d,.int .i64 f,.slice A3 (ZaR d f ss I a b).1.length c3],.bool (ZaR d f ss I a b).2]) (by simp [results,Tryz.results240,go_sem, *]) rfl ?_
   rw [HP.out]
   exact ⟨A3,c3,rfl,ZaD ho3 upr (by first|exact Nat.le_refl _|(simp;done)|omega|(simp;omega)|exact (‹_∧_∧Below _ _ _›).2.2.size),bel⟩
theorem ZlB (d f:Int) (B:Nat) (A:Option Addr) (n c:Nat) (ss:List ByteArray) (K F L T I:Int) (b a:ByteArray) (w:World) (hS:ZaJ w B A n ss) (hB:B≤w.heap.size) (hbz:b.size≤16777216) (haz:a.size≤16777216) :
  Calls Tryz.prog 262 #[.agg #[.int .i64 d,.int .i64 f,.slice A n c],.agg #[.int .i64 K,.int .i64 F,.int .i64 L,.int .i64 T,.int .i64 I,.string b,.string a]] w (ZaT w.heap.size d f (Zab false d f ss K F L T I b a).1 (Zab false d f ss K F L T I b a).2 w):=by
 have hn:=hS.nb
 have hS2:=((hS.alloc hB (.cells #[.int .i64 d,.int .i64 f,.slice A n c] 26)).alloc (by simp;omega) (.cells #[.int .i64 K,.int .i64 F,.int .i64 L,.int .i64 T,.int .i64 I,.string b,.string a] 167)).alloc (by simp;omega) (.cells #[.int .i64 0,.int .i64 0,.slice none 0 0] 26)
 cases hp:Zbo K F L T I b a
 ·have HP:=Lib.hid (Zev (on:=false) (d:=d) (f:=f) (ss:=ss) hp)
  go_enter Tryz.func262,Tryz.ntmps262
  go_wp2_with (first|(go_at_call 200;refine (Zcs _ _ _ _ _ _ _ _).mono ?_;rw [hp];rintro e w1 ⟨rfl,hb1⟩;obtain ⟨hcb,hfb⟩:=Zw hb1;obtain ⟨qaa,qba,qca,qda,qia,qja⟩:=zs3 (show w.heap.size+1+1<w1.heap.size by have hzz:=hb1.size;(try simp at hzz);omega))|(go_at_call 181;refine (ZaZ _ _ B _ _ _ ss _ (hS2.below (hb1.mono (by simp;omega))) (by first|omega|(simp;omega))).mono ?_;rintro e w3 ⟨A3,c3,rfl,ho3,hb3⟩;obtain ⟨hcb3,hfb3⟩:=Zw hb3;obtain ⟨qea,qfa,qga,qha,qka,qla⟩:=zs3 (show w.heap.size+1+1<w3.heap.size by have hzz:=hb3.size;(try simp at hzz);omega)))
  refine bodyPost_ret (v:=.tuple #[.agg #[.int .i64 d,.int .i64 f,.slice A3 ss.length c3],.bool false]) (by simp [results,Tryz.results262,go_sem, *]) rfl ?_
  rw [HP.out]
  exact ⟨A3,c3,rfl,ZaD ho3 upr (by first|exact Nat.le_refl _|(simp;done)|omega|(simp;omega)|exact (‹_∧_∧Below _ _ _›).2.2.size),bel⟩
 ·rcases Zfb hp with h|h|h
  ·subst h
   have HP:Hid (Zab false d f ss 1 F L T I b a=Zax 102 d f ss F L T):=by unfold Hid Zab;rw [hp];simp
   go_enter Tryz.func262,Tryz.ntmps262
   go_wp2_with (first|(go_at_call 200;refine (Zcs _ _ _ _ _ _ _ _).mono ?_;rw [hp];rintro e w1 ⟨rfl,hb1⟩;obtain ⟨hcb,hfb⟩:=Zw hb1;obtain ⟨qaa,qba,qca,qda,qia,qja⟩:=zs3 (show w.heap.size+1+1<w1.heap.size by have hzz:=hb1.size;(try simp at hzz);omega))|(go_at_call 202;refine (Zi7 _ _ B _ _ _ ss _ _ _ _ (hS2.below (hb1.mono (by simp;omega))) (by first|omega|(simp;omega))).mono ?_;rintro e w3 ⟨A3,c3,rfl,ho3,hb3⟩;obtain ⟨hcb3,hfb3⟩:=Zw hb3;obtain ⟨qea,qfa,qga,qha,qka,qla⟩:=zs3 (show w.heap.size+1+1<w3.heap.size by have hzz:=hb3.size;(try simp at hzz);omega)))
   refine bodyPost_ret (v:=.tuple #[.agg #[.int .i64 d,.int .i64 f,.slice A3 (Zax 102 d f ss F L T).1.length c3],.bool (Zax 102 d f ss F L T).2]) (by simp [results,Tryz.results262,go_sem, *]) rfl ?_
   rw [HP.out]
   exact ⟨A3,c3,rfl,ZaD ho3 upr (by first|exact Nat.le_refl _|(simp;done)|omega|(simp;omega)|exact (‹_∧_∧Below _ _ _›).2.2.size),bel⟩
  ·subst h
   have HP:Hid (Zab false d f ss 2 F L T I b a=Zax 100 d f ss F L T):=by unfold Hid Zab;rw [hp];simp
   go_enter Tryz.func262,Tryz.ntmps262
   go_wp2_with (first|(go_at_call 200;refine (Zcs _ _ _ _ _ _ _ _).mono ?_;rw [hp];rintro e w1 ⟨rfl,hb1⟩;obtain ⟨hcb,hfb⟩:=Zw hb1;obtain ⟨qaa,qba,qca,qda,qia,qja⟩:=zs3 (show w.heap.size+1+1<w1.heap.size by have hzz:=hb1.size;(try simp at hzz);omega))|(go_at_call 201;refine (Zj6 _ _ B _ _ _ ss _ _ _ _ (hS2.below (hb1.mono (by simp;omega))) (by first|omega|(simp;omega))).mono ?_;rintro e w3 ⟨A3,c3,rfl,ho3,hb3⟩;obtain ⟨hcb3,hfb3⟩:=Zw hb3;obtain ⟨qea,qfa,qga,qha,qka,qla⟩:=zs3 (show w.heap.size+1+1<w3.heap.size by have hzz:=hb3.size;(try simp at hzz);omega)))
   refine bodyPost_ret (v:=.tuple #[.agg #[.int .i64 d,.int .i64 f,.slice A3 (Zax 100 d f ss F L T).1.length c3],.bool (Zax 100 d f ss F L T).2]) (by simp [results,Tryz.results262,go_sem, *]) rfl ?_
   rw [HP.out]
   exact ⟨A3,c3,rfl,ZaD ho3 upr (by first|exact Nat.le_refl _|(simp;done)|omega|(simp;omega)|exact (‹_∧_∧Below _ _ _›).2.2.size),bel⟩
  ·subst h
   have HP:Hid (Zab false d f ss 3 F L T I b a=ZaR d f ss I a b):=by unfold Hid Zab;rw [hp];simp
   go_enter Tryz.func262,Tryz.ntmps262
   go_wp2_with (first|(go_at_call 200;refine (Zcs _ _ _ _ _ _ _ _).mono ?_;rw [hp];rintro e w1 ⟨rfl,hb1⟩;obtain ⟨hcb,hfb⟩:=Zw hb1;obtain ⟨qaa,qba,qca,qda,qia,qja⟩:=zs3 (show w.heap.size+1+1<w1.heap.size by have hzz:=hb1.size;(try simp at hzz);omega))|(go_at_call 203;refine (Zga _ _ B _ _ _ ss _ _ _ _ (hS2.below (hb1.mono (by simp;omega))) (by first|omega|(simp;omega)) hbz).mono ?_;rintro e w3 ⟨A3,c3,rfl,ho3,hb3⟩;obtain ⟨hcb3,hfb3⟩:=Zw hb3;obtain ⟨qea,qfa,qga,qha,qka,qla⟩:=zs3 (show w.heap.size+1+1<w3.heap.size by have hzz:=hb3.size;(try simp at hzz);omega)))
   refine bodyPost_ret (v:=.tuple #[.agg #[.int .i64 d,.int .i64 f,.slice A3 (ZaR d f ss I a b).1.length c3],.bool (ZaR d f ss I a b).2]) (by simp [results,Tryz.results262,go_sem, *]) rfl ?_
   rw [HP.out]
   exact ⟨A3,c3,rfl,ZaD ho3 upr (by first|exact Nat.le_refl _|(simp;done)|omega|(simp;omega)|exact (‹_∧_∧Below _ _ _›).2.2.size),bel⟩
theorem Zjm (c:UInt8) (d f:Int) (ss:List ByteArray) (F L T:Int) (m:Nat) (hl:ss.length≤m) (hs:∀ x∈ss,x.size≤16777216):(Zax c d f ss F L T).1.length≤m∧∀ x∈(Zax c d f ss F L T).1,x.size≤16777216:=by
 unfold Zax
 split
 ·exact ⟨by show (ZbW _ _ _ _).length≤_;rw [Zcj];omega,fun x hx=>Zln (c:=c) hs (‹_∧_›).2 x hx⟩
 ·exact ⟨hl,hs⟩
theorem Zox (d f:Int) (ss:List ByteArray) (k:Int) (s:ByteArray) (m:Nat) (hl:ss.length≤m) (hs:∀ x∈ss,x.size≤16777216) (h:s.size≤16777216):(ZbX d f ss k s).1.length≤m∧∀ x∈(ZbX d f ss k s).1,x.size≤16777216:=by
 unfold ZbX
 split
 ·refine ⟨by show (ss.set _ _).length≤_;rw [List.length_set];omega,fun x hx=>?_⟩
  rcases List.mem_or_eq_of_mem_set hx with h1|h1
  ·exact hs x h1
  ·rw [h1];exact h
 ·exact ⟨hl,hs⟩
theorem ZhK (d f:Int) (ss:List ByteArray) (k:Int) (b a:ByteArray) (m:Nat) (hl:ss.length≤m) (hs:∀ x∈ss,x.size≤16777216) (h:a.size≤16777216):(ZaR d f ss k b a).1.length≤m∧∀ x∈(ZaR d f ss k b a).1,x.size≤16777216:=by
 unfold ZaR
 split
 ·exact Zox d f ss k a m hl hs h
 ·exact ⟨hl,hs⟩
theorem Zez (on:Bool) (d f:Int) (ss:List ByteArray) (K F L T I:Int) (b a:ByteArray) (m:Nat) (hl:ss.length≤m) (hm:m≤16777216) (hs:∀ x∈ss,x.size≤16777216) (hb:b.size≤16777216) (ha:a.size≤16777216) :
  (Zab on d f ss K F L T I b a).1.length≤m∧∀ x∈(Zab on d f ss K F L T I b a).1,x.size≤16777216:=by
 unfold Zab
 split
 ·exact ⟨hl,hs⟩
 ·split
  ·exact Zjm _ d f ss F L T m hl hs
  ·split
   ·exact Zjm _ d f ss F L T m hl hs
   ·split
    ·exact ZhK d f ss I b a m hl hs ha
    ·exact ZhK d f ss I a b m hl hs hb
end Go.Proofs.YtlimlolciekimaaGreatDoor
