/- Contracts of the program's and the reference's functions (Flip1, Flip2, Box1, Box2). -/
import Derived.Lib.Strings
import Derived.WalkLawsBesides
import Derived.WalkSpells
import Derived.Test.YtlimlolciekimaaGreatDoorRows
import Derived.Test.YtlimlolciekimaaGreatDoorQRa
import Derived.Test.YtlimlolciekimaaGreatDoorQRb
namespace Go.Proofs.YtlimlolciekimaaGreatDoor
set_option maxHeartbeats 1600000
open Go.ChangeShapes Go.WideShapes Go.ChangeAt Go.RowKit
set_option linter.unusedVariables false
set_option maxRecDepth 10000
def chr (s:ByteArray) (k:Int):UInt8:=s.data.toList.getD k.toNat 0
def Zbs (s:ByteArray) (k:Int):Bool:=inB k 1 ((s.size:Int) - 1)&&(chr s (k - 1) != chr s k)
def Zaj (c:UInt8) (s:ByteArray) (k:Int):Bool:=(Zar s.data.toList&&Zbs s k)&&(chr s (k - 1)==c)
def Zh5 (l:List UInt8) (k:Nat):List UInt8:=((l.take (k - 1)++(l.drop k).take 1)++(l.drop (k - 1)).take 1)++l.drop (k+1)
def ZbM (s:ByteArray) (k:Int):ByteArray:=⟨(Zh5 s.data.toList k.toNat).toArray⟩
theorem Za5 {x a b:Int}:inB x a b=true↔a≤x∧x≤b:=by simp [inB]
theorem Zdv (s:ByteArray) (K:Nat) (h:K<s.size):chr s (K:Int)=s[K]:=by
 unfold chr
 rw [Int.toNat_natCast,List.getD_eq_getElem?_getD,List.getElem?_eq_getElem (by simpa using h)]
 rfl
theorem Zgw (a b:UInt8):(!((a.toNat:Int)==(b.toNat:Int)))=(a != b):=by
 by_cases h:a=b
 ·subst h;simp
 ·have h3:((a.toNat:Int)==(b.toNat:Int))=false:=by rw [beq_eq_false_iff_ne];intro h2;exact h (UInt8.toNat_inj.1 (by omega))
  have h4:(a==b)=false:=by rw [beq_eq_false_iff_ne];exact h
  rw [h3,bne,h4]
theorem Zid (a b:UInt8):((a.toNat:Int)==(b.toNat:Int))=(a==b):=by
 have h:=Zgw a b
 rw [bne] at h
 exact Bool.not_inj h
theorem Zdk {P:Program} {f:FuncId} {args:Array Value} {w:World} {n:Nat} {v:Value}
  (h:Calls P f args (w.drewN n) fun e w'=>e=.returned v∧∃ m,w'=(w.drewN n).drewN m):Calls P f args (w.drewN n) fun e w''=>e=.returned v∧∃ m,w''=w.drewN m :=
 h.mono fun _ _ ⟨he,m,hm⟩=>⟨he,n+m,by rw [hm,World.drewN_drewN]⟩
theorem Zh4 (s:ByteArray) (k:Int) (w:World) (hs:s.size≤16777216) :
  Calls Tryz.prog 283 #[.string s,.int .i64 k] w fun e w'=>e=.returned (.bool (Zbs s k))∧∃ m,w'=w.drewN m:=by
 have hw1:IntKind.i64.wrap ((s.size:Int) - 1)=(s.size:Int) - 1:=by rw [IntWalk.i64_in _ (by omega)]
 have hq1:∀ (W:World) (v:Int),v=(s.size:Int) - 1→Calls Tryz.prog 71 #[.int .i64 k,.int .i64 1,.int .i64 v] W fun e w'=>e=.returned (.bool (inB k 1 ((s.size:Int) - 1)))∧W=w':=fun W v hv=>by rw [hv];exact Zbl _ _ _ _
 have HW:=Zk hw1
 clear hw1
 cases hk:inB k 1 ((s.size:Int) - 1)
 ·have HF:Hid (Zbs s k=false):=by unfold Hid Zbs;rw [hk];rfl
  rw [hk] at hq1
  have HQ1:=Zk hq1
  clear hq1
  go_enter Tryz.func283,Tryz.ntmps283
  go_wp2
  go_quiet (((first|(go_at_call 71;first|exact Za6 (Ze HQ1 _ _ (by first|with_reducible rfl|exact Ze HW))|exact Zaw (Ze HQ1 _ _ (by first|with_reducible rfl|exact Ze HW))))))
  go_wp2
  go_ret
  exact ⟨Zo HF.out.symm,by first|exact ⟨0,rfl⟩|exact ⟨_,rfl⟩|exact ⟨_,World.drewN_drewN _ _ _⟩⟩
 ·rw [hk] at hq1
  have HQ1:=Zk hq1
  clear hq1
  have hb:=Za5.1 hk
  obtain ⟨L,rfl⟩:=Int.eq_ofNat_of_zero_le (show 0≤k by omega)
  obtain ⟨K,hKL⟩:∃ K,L=K+1:=⟨L - 1,by omega⟩
  have hL:L<s.size:=by omega
  have hK:K<s.size:=by omega
  have e1:((L:Int) - 1)=(K:Int):=by omega
  have w1:IntKind.i64.wrap ((L:Int) - 1)=(K:Int):=by rw [e1,IntWalk.i64_in _ (by omega)]
  have HF:Hid (Zbs s L=(s[K] != s[L])):=by unfold Hid Zbs;rw [hk,e1,Zdv s K hK,Zdv s L hL];rfl
  have HK:=Zk hk
  have HKL:=Lib.hid hKL
  clear hk hb hKL e1
  go_enter Tryz.func283,Tryz.ntmps283
  go_wp2
  go_quiet (((first|(go_at_call 71;first|exact Za6 (Ze HQ1 _ _ (by first|with_reducible rfl|exact Ze HW))|exact Zaw (Ze HQ1 _ _ (by first|with_reducible rfl|exact Ze HW))))))
  go_wp2
  go_ret
  exact ⟨Zo (by rw [HF.out];exact Zgw _ _),by first|exact ⟨0,rfl⟩|exact ⟨_,rfl⟩|exact ⟨_,World.drewN_drewN _ _ _⟩⟩
theorem ZjR (s:ByteArray) (k:Int) (w:World) (hs:s.size≤16777216) :
  Calls Tryz.prog 270 #[.string s,.int .i64 k] w fun e w'=>e=.returned (.bool (Zaj 102 s k))∧∃ m,w'=w.drewN m:=by
 have hq1:∀ W:World,Calls Tryz.prog 168 #[.string s] W fun e w'=>e=.returned (.bool (Zar s.data.toList))∧W=w':=fun W=>Zda s W (by unfold maxLen;omega)
 have hq2:∀ W:World,Calls Tryz.prog 283 #[.string s,.int .i64 k] W fun e w'=>e=.returned (.bool (Zbs s k))∧∃ m,w'=W.drewN m:=fun W=>Zh4 s k W hs
 cases hi:Zar s.data.toList
 ·have HF:Hid (Zaj 102 s k=false):=by unfold Hid Zaj;rw [hi];rfl
  rw [hi] at hq1
  have HQ1:=Zk hq1
  clear hq1 hq2
  go_enter Tryz.func270,Tryz.ntmps270
  go_wp2_with (first|(go_at_call 168;refine (Ze HQ1 _).mono ?_;rintro e w' ⟨rfl,rfl⟩)|(go_at_call 283;refine (Ze HQ2 _).mono ?_;rintro e w' ⟨rfl,m,rfl⟩))
  go_ret
  exact ⟨Zo HF.out.symm,by first|exact ⟨0,rfl⟩|exact ⟨_,rfl⟩|exact ⟨_,World.drewN_drewN _ _ _⟩⟩
 rw [hi] at hq1
 have HQ1:=Zk hq1
 clear hq1
 cases hk:Zbs s k
 ·have HF:Hid (Zaj 102 s k=false):=by unfold Hid Zaj;rw [hk,hi];rfl
  rw [hk] at hq2
  have HQ2:=Zk hq2
  clear hq2
  go_enter Tryz.func270,Tryz.ntmps270
  go_wp2_with (first|(go_at_call 168;refine (Ze HQ1 _).mono ?_;rintro e w' ⟨rfl,rfl⟩)|(go_at_call 283;refine (Ze HQ2 _).mono ?_;rintro e w' ⟨rfl,m,rfl⟩))
  go_ret
  exact ⟨Zo HF.out.symm,by first|exact ⟨0,rfl⟩|exact ⟨_,rfl⟩|exact ⟨_,World.drewN_drewN _ _ _⟩⟩
 ·rw [hk] at hq2
  have HQ2:=Zk hq2
  clear hq2
  have hb:=Za5.1 (show inB k 1 ((s.size:Int) - 1)=true by unfold Zbs at hk;exact (Bool.and_eq_true_iff.1 hk).1)
  obtain ⟨L,rfl⟩:=Int.eq_ofNat_of_zero_le (show 0≤k by omega)
  obtain ⟨K,hKL⟩:∃ K,L=K+1:=⟨L - 1,by omega⟩
  have hL:L<s.size:=by omega
  have hK:K<s.size:=by omega
  have e1:((L:Int) - 1)=(K:Int):=by omega
  have w1:IntKind.i64.wrap ((L:Int) - 1)=(K:Int):=by rw [e1,IntWalk.i64_in _ (by omega)]
  have HF:Hid (Zaj 102 s L=(s[K]==(102:UInt8))):=by unfold Hid Zaj;rw [hk,hi,e1,Zdv s K hK];rfl
  have HKL:=Lib.hid hKL
  clear hk hb hKL e1
  go_enter Tryz.func270,Tryz.ntmps270
  go_wp2_with (first|(go_at_call 168;refine (Ze HQ1 _).mono ?_;rintro e w' ⟨rfl,rfl⟩)|(go_at_call 283;refine (Ze HQ2 _).mono ?_;rintro e w' ⟨rfl,m,rfl⟩))
  go_ret
  exact ⟨Zo (by rw [HF.out];exact Zid s[K] 102),by first|exact ⟨0,rfl⟩|exact ⟨_,rfl⟩|exact ⟨_,World.drewN_drewN _ _ _⟩⟩
theorem ZlR (s:ByteArray) (k:Int) (w:World) (hs:s.size≤16777216) :
  Calls Tryz.prog 282 #[.string s,.int .i64 k] w fun e w'=>e=.returned (.bool (Zaj 100 s k))∧∃ m,w'=w.drewN m:=by
 have hq1:∀ W:World,Calls Tryz.prog 168 #[.string s] W fun e w'=>e=.returned (.bool (Zar s.data.toList))∧W=w':=fun W=>Zda s W (by unfold maxLen;omega)
 have hq2:∀ W:World,Calls Tryz.prog 283 #[.string s,.int .i64 k] W fun e w'=>e=.returned (.bool (Zbs s k))∧∃ m,w'=W.drewN m:=fun W=>Zh4 s k W hs
 cases hi:Zar s.data.toList
 ·have HF:Hid (Zaj 100 s k=false):=by unfold Hid Zaj;rw [hi];rfl
  rw [hi] at hq1
  have HQ1:=Zk hq1
  clear hq1 hq2
  go_enter Tryz.func282,Tryz.ntmps282
  go_wp2_with (first|(go_at_call 168;refine (Ze HQ1 _).mono ?_;rintro e w' ⟨rfl,rfl⟩)|(go_at_call 283;refine (Ze HQ2 _).mono ?_;rintro e w' ⟨rfl,m,rfl⟩))
  go_ret
  exact ⟨Zo HF.out.symm,by first|exact ⟨0,rfl⟩|exact ⟨_,rfl⟩|exact ⟨_,World.drewN_drewN _ _ _⟩⟩
 rw [hi] at hq1
 have HQ1:=Zk hq1
 clear hq1
 cases hk:Zbs s k
 ·have HF:Hid (Zaj 100 s k=false):=by unfold Hid Zaj;rw [hk,hi];rfl
  rw [hk] at hq2
  have HQ2:=Zk hq2
  clear hq2
  go_enter Tryz.func282,Tryz.ntmps282
  go_wp2_with (first|(go_at_call 168;refine (Ze HQ1 _).mono ?_;rintro e w' ⟨rfl,rfl⟩)|(go_at_call 283;refine (Ze HQ2 _).mono ?_;rintro e w' ⟨rfl,m,rfl⟩))
  go_ret
  exact ⟨Zo HF.out.symm,by first|exact ⟨0,rfl⟩|exact ⟨_,rfl⟩|exact ⟨_,World.drewN_drewN _ _ _⟩⟩
 ·rw [hk] at hq2
  have HQ2:=Zk hq2
  clear hq2
  have hb:=Za5.1 (show inB k 1 ((s.size:Int) - 1)=true by unfold Zbs at hk;exact (Bool.and_eq_true_iff.1 hk).1)
  obtain ⟨L,rfl⟩:=Int.eq_ofNat_of_zero_le (show 0≤k by omega)
  obtain ⟨K,hKL⟩:∃ K,L=K+1:=⟨L - 1,by omega⟩
  have hL:L<s.size:=by omega
  have hK:K<s.size:=by omega
  have e1:((L:Int) - 1)=(K:Int):=by omega
  have w1:IntKind.i64.wrap ((L:Int) - 1)=(K:Int):=by rw [e1,IntWalk.i64_in _ (by omega)]
  have HF:Hid (Zaj 100 s L=(s[K]==(100:UInt8))):=by unfold Hid Zaj;rw [hk,hi,e1,Zdv s K hK];rfl
  have HKL:=Lib.hid hKL
  clear hk hb hKL e1
  go_enter Tryz.func282,Tryz.ntmps282
  go_wp2_with (first|(go_at_call 168;refine (Ze HQ1 _).mono ?_;rintro e w' ⟨rfl,rfl⟩)|(go_at_call 283;refine (Ze HQ2 _).mono ?_;rintro e w' ⟨rfl,m,rfl⟩))
  go_ret
  exact ⟨Zo (by rw [HF.out];exact Zid s[K] 100),by first|exact ⟨0,rfl⟩|exact ⟨_,rfl⟩|exact ⟨_,World.drewN_drewN _ _ _⟩⟩
theorem ZgX (s:ByteArray) (k:Int) (c:UInt8) (w:World) (hs:s.size≤16777216) :
  Calls Tryz.prog 277 #[.string s,.int .i64 k,.int .u8 c.toNat] w fun e w'=>e=.returned (.bool (Zaj c s k))∧∃ m,w'=w.drewN m:=by
 have hw1:IntKind.i64.wrap ((s.size:Int) - 1)=(s.size:Int) - 1:=by rw [IntWalk.i64_in _ (by omega)]
 have HW:=Zk hw1
 clear hw1
 have hq1:∀ W:World,Calls Tryz.prog 204 #[.string s] W fun e w'=>e=.returned (.bool (Zar s.data.toList))∧W=w':=fun W=>Zej s W (by unfold maxLen;omega)
 have hq2:∀ (W:World) (v:Int),v=(s.size:Int) - 1→Calls Tryz.prog 95 #[.int .i64 k,.int .i64 1,.int .i64 v] W fun e w'=>e=.returned (.bool (inB k 1 ((s.size:Int) - 1)))∧W=w':=fun W v hv=>by rw [hv];exact Zbc _ _ _ _
 cases hi:Zar s.data.toList
 ·have HF:Hid (Zaj c s k=false):=by unfold Hid Zaj;rw [hi];rfl
  rw [hi] at hq1
  have HQ1:=Zk hq1
  clear hq1 hq2
  go_enter Tryz.func277,Tryz.ntmps277
  go_wp2
  go_quiet ((first|(go_at_call 204;first|exact Za6 (Ze HQ1 _)|exact Zaw (Ze HQ1 _))))
  go_wp2
  go_ret
  exact ⟨Zo HF.out.symm,by first|exact ⟨0,rfl⟩|exact ⟨_,rfl⟩|exact ⟨_,World.drewN_drewN _ _ _⟩⟩
 rw [hi] at hq1
 have HQ1:=Zk hq1
 clear hq1
 cases hk:inB k 1 ((s.size:Int) - 1)
 ·have HF:Hid (Zaj c s k=false):=by unfold Hid Zaj Zbs;rw [hk,hi];rfl
  rw [hk] at hq2
  have HQ2:=Zk hq2
  clear hq2
  go_enter Tryz.func277,Tryz.ntmps277
  go_wp2
  go_quiet ((first|(go_at_call 204;first|exact Za6 (Ze HQ1 _)|exact Zaw (Ze HQ1 _))|(go_at_call 95;first|exact Za6 (Ze HQ2 _ _ (by first|with_reducible rfl|exact Ze HW))|exact Zaw (Ze HQ2 _ _ (by first|with_reducible rfl|exact Ze HW)))))
  go_wp2
  go_ret
  exact ⟨Zo HF.out.symm,by first|exact ⟨0,rfl⟩|exact ⟨_,rfl⟩|exact ⟨_,World.drewN_drewN _ _ _⟩⟩
 ·rw [hk] at hq2
  have HQ2:=Zk hq2
  clear hq2
  have hb:=Za5.1 hk
  obtain ⟨L,rfl⟩:=Int.eq_ofNat_of_zero_le (show 0≤k by omega)
  obtain ⟨K,hKL⟩:∃ K,L=K+1:=⟨L - 1,by omega⟩
  have hL:L<s.size:=by omega
  have hK:K<s.size:=by omega
  have e1:((L:Int) - 1)=(K:Int):=by omega
  have w1:IntKind.i64.wrap ((L:Int) - 1)=(K:Int):=by rw [e1,IntWalk.i64_in _ (by omega)]
  have HF:Hid (Zaj c s L=((s[K] != s[L])&&(s[K]==c))):=by unfold Hid Zaj Zbs;rw [hk,hi,e1,Zdv s K hK,Zdv s L hL];rfl
  have hne:=Zgw s[L] s[K]
  have heq:=Zid s[K] c
  have HKL:=Lib.hid hKL
  clear hk hb hKL e1
  cases h1:((s[L].toNat:Int)==(s[K].toNat:Int)) <;>
  ·rw [h1] at hne
   have HN:=Zk hne
   have HE:=Zk heq
   have hd:((s[L].toNat:Int) != (s[K].toNat:Int))=!((s[L].toNat:Int)==(s[K].toNat:Int)):=rfl
   rw [h1] at hd
   have hd2:=hd
   simp only [Bool.not_true,Bool.not_false] at hd2
   clear hne heq hd
   go_enter Tryz.func277,Tryz.ntmps277
   go_wp2
   go_quiet ((first|(go_at_call 204;first|exact Za6 (Ze HQ1 _)|exact Zaw (Ze HQ1 _))|(go_at_call 95;first|exact Za6 (Ze HQ2 _ _ (by first|with_reducible rfl|exact Ze HW))|exact Zaw (Ze HQ2 _ _ (by first|with_reducible rfl|exact Ze HW)))))
   go_wp2
   go_ret
   exact ⟨Zo (by rw [HF.out,← Ze HE,bne_comm,← Ze HN];simp),by first|exact ⟨0,rfl⟩|exact ⟨_,rfl⟩|exact ⟨_,World.drewN_drewN _ _ _⟩⟩
theorem ZjU (s:ByteArray) (k:Int) (w:World) (hs:s.size≤16777216) :
  Calls Tryz.prog 247 #[.string s,.int .i64 k] w fun e w'=>e=.returned (.bool (Zaj 102 s k))∧∃ m,w'=w.drewN m:=by
 go_enter Tryz.func247,Tryz.ntmps247
 go_wp2_with (go_at_call 277;refine (ZgX s k 102 _ hs).mono ?_;rintro e w' ⟨rfl,m,rfl⟩)
 go_ret
 exact ⟨rfl,by first|exact ⟨0,rfl⟩|exact ⟨_,rfl⟩|exact ⟨_,World.drewN_drewN _ _ _⟩⟩
theorem Zlh (s:ByteArray) (k:Int) (w:World) (hs:s.size≤16777216) :
  Calls Tryz.prog 276 #[.string s,.int .i64 k] w fun e w'=>e=.returned (.bool (Zaj 100 s k))∧∃ m,w'=w.drewN m:=by
 go_enter Tryz.func276,Tryz.ntmps276
 go_wp2_with (go_at_call 277;refine (ZgX s k 100 _ hs).mono ?_;rintro e w' ⟨rfl,m,rfl⟩)
 go_ret
 exact ⟨rfl,by first|exact ⟨0,rfl⟩|exact ⟨_,rfl⟩|exact ⟨_,World.drewN_drewN _ _ _⟩⟩
theorem ZlQ (s:ByteArray) (k:Int) (w:World) (hs:s.size≤16777216) :
  Calls Tryz.prog 268 #[.string s,.int .i64 k] w fun e w'=>e=.returned (.bool (Zaj 100 s k))∧∃ m,w'=w.drewN m:=by
 go_enter Tryz.func268,Tryz.ntmps268
 go_wp2_with (go_at_call 282;refine (ZlR s k _ hs).mono ?_;rintro e w' ⟨rfl,m,rfl⟩)
 go_ret
 exact ⟨rfl,by first|exact ⟨0,rfl⟩|exact ⟨_,rfl⟩|exact ⟨_,World.drewN_drewN _ _ _⟩⟩
theorem Ziz (s:ByteArray) (L K:Nat) (hKL:L=K+1) (hL:L<s.size) :
  s.extract 0 K++s.extract L (L+1)++s.extract K L++s.extract (L+1) s.size=ZbM s (L:Int):=by
 apply ZbZ
 subst hKL
 unfold ZbM Zh5
 have h:List.take (s.size - (K+1+1)) (List.drop (K+1+1) s.data.toList)=List.drop (K+1+1) s.data.toList:=List.take_of_length_le (by rw [List.length_drop];simp)
 simp only [Int.toNat_natCast,ByteArray.data_append,Array.toList_append,ByteArray.data_extract,Array.toList_extract,List.extract_eq_take_drop]
 simp [h]
theorem ZhP (s:ByteArray) (L K:Nat) (w:World) (hs:s.size≤16777216) (hKL:L=K+1) (hL:L<s.size) :
  Calls Tryz.prog 269 #[.string s,.int .i64 L] w fun e w'=>e=.returned (.string (ZbM s (L:Int)))∧∃ m,w'=w.drewN m:=by
 have HP:=Lib.hid (Ziz s L K hKL hL)
 have hK:K<s.size:=by omega
 have w1:IntKind.i64.wrap ((L:Int) - 1)=(K:Int):=by rw [show (L:Int) - 1=(K:Int) by omega,IntWalk.i64_in _ (by omega)]
 have w2:IntKind.i64.wrap ((L:Int)+1)=(L:Int)+1:=by rw [IntWalk.i64_in _ (by omega)]
 have hle:K≤L:=by omega
 have hle2:L+1≤s.size:=hL
 have HKL:=Lib.hid hKL
 clear hKL
 go_enter Tryz.func269,Tryz.ntmps269
 go_wp2
 go_quiet (fail)
 go_wp2
 go_ret
 exact ⟨Zfl (by rw [← HP.out]),by first|exact ⟨0,rfl⟩|exact ⟨_,rfl⟩|exact ⟨_,World.drewN_drewN _ _ _⟩⟩
theorem ZiX (s:ByteArray) (L K:Nat) (w:World) (hs:s.size≤16777216) (hKL:L=K+1) (hL:L<s.size) :
  Calls Tryz.prog 245 #[.string s,.int .i64 L] w fun e w'=>e=.returned (.string (ZbM s (L:Int)))∧∃ m,w'=w.drewN m:=by
 have HP:=Lib.hid (Ziz s L K hKL hL)
 have hK:K<s.size:=by omega
 have w1:IntKind.i64.wrap ((L:Int) - 1)=(K:Int):=by rw [show (L:Int) - 1=(K:Int) by omega,IntWalk.i64_in _ (by omega)]
 have w2:IntKind.i64.wrap ((L:Int)+1)=(L:Int)+1:=by rw [IntWalk.i64_in _ (by omega)]
 have hle:K≤L:=by omega
 have hle2:L+1≤s.size:=hL
 have HKL:=Lib.hid hKL
 clear hKL
 go_enter Tryz.func245,Tryz.ntmps245
 go_wp2
 go_quiet (fail)
 go_wp2
 go_ret
 exact ⟨Zfl (by rw [← HP.out]),by first|exact ⟨0,rfl⟩|exact ⟨_,rfl⟩|exact ⟨_,World.drewN_drewN _ _ _⟩⟩
theorem ZcH {c:UInt8} {s:ByteArray} {k:Int} (h:Zaj c s k=true):∃ L K:Nat,k=(L:Int)∧L=K+1∧L<s.size:=by
 unfold Zaj Zbs at h
 simp only [Bool.and_eq_true] at h
 have hb:=Za5.1 h.1.2.1
 exact ⟨k.toNat,k.toNat - 1,by omega,by omega,by omega⟩
def Zb8 (c:UInt8) (s:ByteArray) (k:Int):ByteArray:=if Zaj c s k=true then ZbM s k else s
theorem Zm7 (s:ByteArray) (k:Int) (w:World) (hs:s.size≤16777216) :
  Calls Tryz.prog 236 #[.string s,.int .i64 k] w fun e w'=>e=.returned (.tuple #[.string (Zb8 100 s k),.bool (Zaj 100 s k)])∧∃ m,w'=w.drewN m:=by
 have hq:∀ W:World,Calls Tryz.prog 268 #[.string s,.int .i64 k] W fun e w'=>e=.returned (.bool (Zaj 100 s k))∧∃ m,w'=W.drewN m:=fun W=>ZlQ s k W hs
 cases hc:Zaj 100 s k
 ·have HR:Hid (Zb8 100 s k=s):=by unfold Hid Zb8;rw [if_neg (by rw [hc];decide)]
  rw [hc] at hq
  have HQ:=Zk hq
  clear hq hc
  go_enter Tryz.func236,Tryz.ntmps236
  go_wp2_with (go_at_call 268;refine (Ze HQ _).mono ?_;rintro e w' ⟨rfl,m,rfl⟩)
  refine bodyPost_ret (v:=.tuple #[.string s,.bool false]) (by simp [results,Tryz.results236,go_sem, *]) rfl ?_
  rw [HR.out]
  exact ⟨rfl,by first|exact ⟨0,rfl⟩|exact ⟨_,rfl⟩|exact ⟨_,World.drewN_drewN _ _ _⟩⟩
 ·have HR:Hid (Zb8 100 s k=ZbM s k):=by unfold Hid Zb8;rw [if_pos hc]
  rw [hc] at hq
  have HQ:=Zk hq
  obtain ⟨L,K,rfl,hKL,hL⟩:=ZcH hc
  clear hq hc
  have HKL:=Zk hKL
  clear hKL
  go_enter Tryz.func236,Tryz.ntmps236
  go_wp2_with (first|(go_at_call 268;refine (Ze HQ _).mono ?_;rintro e w' ⟨rfl,m,rfl⟩)|(go_at_call 269;refine (ZhP s L K _ hs (Ze HKL) hL).mono ?_;rintro e w' ⟨rfl,m,rfl⟩))
  refine bodyPost_ret (v:=.tuple #[.string (ZbM s L),.bool true]) (by simp [results,Tryz.results236,go_sem, *]) rfl ?_
  rw [HR.out]
  exact ⟨rfl,by first|exact ⟨0,rfl⟩|exact ⟨_,rfl⟩|exact ⟨_,World.drewN_drewN _ _ _⟩⟩
theorem ZnC (s:ByteArray) (k:Int) (w:World) (hs:s.size≤16777216) :
  Calls Tryz.prog 237 #[.string s,.int .i64 k] w fun e w'=>e=.returned (.tuple #[.string (Zb8 102 s k),.bool (Zaj 102 s k)])∧∃ m,w'=w.drewN m:=by
 have hq:∀ W:World,Calls Tryz.prog 270 #[.string s,.int .i64 k] W fun e w'=>e=.returned (.bool (Zaj 102 s k))∧∃ m,w'=W.drewN m:=fun W=>ZjR s k W hs
 cases hc:Zaj 102 s k
 ·have HR:Hid (Zb8 102 s k=s):=by unfold Hid Zb8;rw [if_neg (by rw [hc];decide)]
  rw [hc] at hq
  have HQ:=Zk hq
  clear hq hc
  go_enter Tryz.func237,Tryz.ntmps237
  go_wp2_with (go_at_call 270;refine (Ze HQ _).mono ?_;rintro e w' ⟨rfl,m,rfl⟩)
  refine bodyPost_ret (v:=.tuple #[.string s,.bool false]) (by simp [results,Tryz.results237,go_sem, *]) rfl ?_
  rw [HR.out]
  exact ⟨rfl,by first|exact ⟨0,rfl⟩|exact ⟨_,rfl⟩|exact ⟨_,World.drewN_drewN _ _ _⟩⟩
 ·have HR:Hid (Zb8 102 s k=ZbM s k):=by unfold Hid Zb8;rw [if_pos hc]
  rw [hc] at hq
  have HQ:=Zk hq
  obtain ⟨L,K,rfl,hKL,hL⟩:=ZcH hc
  clear hq hc
  have HKL:=Zk hKL
  clear hKL
  go_enter Tryz.func237,Tryz.ntmps237
  go_wp2_with (first|(go_at_call 270;refine (Ze HQ _).mono ?_;rintro e w' ⟨rfl,m,rfl⟩)|(go_at_call 269;refine (ZhP s L K _ hs (Ze HKL) hL).mono ?_;rintro e w' ⟨rfl,m,rfl⟩))
  refine bodyPost_ret (v:=.tuple #[.string (ZbM s L),.bool true]) (by simp [results,Tryz.results237,go_sem, *]) rfl ?_
  rw [HR.out]
  exact ⟨rfl,by first|exact ⟨0,rfl⟩|exact ⟨_,rfl⟩|exact ⟨_,World.drewN_drewN _ _ _⟩⟩
def Zcb (d f:Int) (ss:List ByteArray) (n:Nat) (F L:Int):Bool:=(Zac d f ss&&inB F 0 L)&&decide (L<(n:Int))
theorem Zlf (d f:Int) (ss:List ByteArray) (n:Nat) (F L:Int):Zcb d f ss n F L=((Zac d f ss&&inB L 0 ((n:Int) - 1))&&inB F 0 L):=by
 unfold Zcb
 cases Zac d f ss
 ·rfl
 ·have h:(inB F 0 L&&decide (L<(n:Int)))=(inB L 0 ((n:Int) - 1)&&inB F 0 L):=by
   rw [Bool.eq_iff_iff]
   simp only [Bool.and_eq_true,Zeu,decide_eq_true_eq]
   omega
  simpa using h
def ZbW (at_:Int) (ss:List ByteArray) (F j:Nat):List ByteArray:=ss.mapIdx fun i s=>if F≤i∧i<F+j then ZbM s at_ else s
def ZcO (c:UInt8) (at_:Int) (ss:List ByteArray) (F j:Nat):Bool:=((ss.drop F).take j).all fun s=>Zaj c s at_
theorem Zcj (at_:Int) (ss:List ByteArray) (F j:Nat):(ZbW at_ ss F j).length=ss.length:=by simp [ZbW]
theorem ZeB (at_:Int) (ss:List ByteArray) (F:Nat):ZbW at_ ss F 0=ss:=by
 apply List.ext_getElem (by simp [ZbW])
 intro i h1 h2
 simp [ZbW];intro h3 h4;omega
theorem ZlI (at_:Int) (ss:List ByteArray) (F j:Nat) (h:F+j<ss.length):(ZbW at_ ss F j).set (F+j) (ZbM ss[F+j] at_)=ZbW at_ ss F (j+1):=by
 apply List.ext_getElem (by simp [ZbW])
 intro i h1 h2
 rw [List.getElem_set]
 simp only [ZbW,List.getElem_mapIdx]
 by_cases hi:F+j=i
 ·subst hi
  simp
 ·rw [if_neg hi]
  by_cases h3:F≤i∧i<F+j
  ·rw [if_pos h3,if_pos (by omega)]
  ·rw [if_neg h3,if_neg (by omega)]
theorem Zfe (c:UInt8) (at_:Int) (ss:List ByteArray) (F:Nat):ZcO c at_ ss F 0=true:=by simp [ZcO]
theorem ZmO (c:UInt8) (at_:Int) (ss:List ByteArray) (F j:Nat) (h:F+j<ss.length):ZcO c at_ ss F (j+1)=(ZcO c at_ ss F j&&Zaj c ss[F+j] at_):=by
 unfold ZcO
 rw [List.take_succ_eq_append_getElem (by rw [List.length_drop];omega),List.all_append]
 simp
theorem ZmP {c:UInt8} {at_:Int} {ss:List ByteArray} {F j m:Nat} (h:F+j<ss.length) (hj:j<m) (hc:Zaj c ss[F+j] at_=false):ZcO c at_ ss F m=false:=by
 unfold ZcO
 rw [List.all_eq_false]
 refine ⟨ss[F+j],?_,by simp [hc]⟩
 rw [List.mem_take_iff_getElem]
 exact ⟨j,by rw [List.length_drop];omega,by simp⟩
theorem Zle {s:ByteArray} {at_:Int} (h:s.size≤16777216) {c:UInt8} (hc:Zaj c s at_=true):(ZbM s at_).size=s.size:=by
 obtain ⟨L,K,rfl,hKL,hL⟩:=ZcH hc
 subst hKL
 have h1:s.data.toList.length=s.size:=by simp
 show (Zh5 s.data.toList _).toArray.size=s.size
 simp only [List.size_toArray,Zh5,List.length_append,List.length_take,List.length_drop,Int.toNat_natCast,h1]
 omega
def Zax (c:UInt8) (d f:Int) (ss:List ByteArray) (F L at_:Int):List ByteArray×Bool :=
 if Zcb d f ss ss.length F L=true∧ZcO c at_ ss F.toNat (L.toNat+1 - F.toNat)=true then (ZbW at_ ss F.toNat (L.toNat+1 - F.toNat),true) else (ss,false)
theorem Zf3 (d f:Int) (B:Nat) (A:Option Addr) (n c:Nat) (ss:List ByteArray) (F L T:Int) (w:World) (hS:ZaJ w B A n ss) (hB:B≤w.heap.size) :
  Calls Tryz.prog 267 #[.agg #[.int .i64 d,.int .i64 f,.slice A n c],.agg #[.int .i64 F,.int .i64 L,.int .i64 T]] w fun e w'=>e=.returned (.bool (Zcb d f ss n F L))∧Below w.heap.size w w':=by
 have hn:=hS.nb
 have hS2:=(hS.alloc hB (.cells #[.int .i64 d,.int .i64 f,.slice A n c] 26)).alloc (by simp;omega) (.cells #[.int .i64 F,.int .i64 L,.int .i64 T] 165)
 unfold Zcb
 cases hc:Zac d f ss <;> cases hk:inB F 0 L <;>
 ·go_enter Tryz.func267,Tryz.ntmps267
  go_wp2_with (first|(go_at_call 70;refine (Zb0 _ _ _ _ _ ss _ (hS2.more (by simp;omega))).mono ?_;rintro e w1 ⟨rfl,hb1⟩;obtain ⟨hcb,hfb⟩:=Zw hb1;obtain ⟨qaa,qba,qca,qda⟩:=zs2 (show w.heap.size+1<w1.heap.size by have hzz:=hb1.size;(try simp at hzz);omega))|(go_at_call 71;refine (Zbl _ _ _ _).mono ?_;rintro e w' ⟨rfl,rfl⟩))
  go_ret
  exact ⟨by simp,bel⟩
theorem ZeK (d f:Int) (B:Nat) (A:Option Addr) (n c:Nat) (ss:List ByteArray) (F L T:Int) (w:World) (hS:ZaJ w B A n ss) (hB:B≤w.heap.size) :
  Calls Tryz.prog 246 #[.agg #[.int .i64 d,.int .i64 f,.slice A n c],.agg #[.int .i64 F,.int .i64 L,.int .i64 T]] w fun e w'=>e=.returned (.bool (Zcb d f ss n F L))∧Below w.heap.size w w':=by
 have hn:=hS.nb
 have hS2:=(hS.alloc hB (.cells #[.int .i64 d,.int .i64 f,.slice A n c] 26)).alloc (by simp;omega) (.cells #[.int .i64 F,.int .i64 L,.int .i64 T] 165)
 rw [Zlf]
 cases hc:Zac d f ss <;> cases hk:inB L 0 ((n:Int) - 1) <;>
 ·go_enter Tryz.func246,Tryz.ntmps246
  go_wp2_with (first|(go_at_call 97;refine (Zbp _ _ _ _ _ ss _ (hS2.more (by simp;omega))).mono ?_;rintro e w1 ⟨rfl,hb1⟩;obtain ⟨hcb,hfb⟩:=Zw hb1;obtain ⟨qaa,qba,qca,qda⟩:=zs2 (show w.heap.size+1<w1.heap.size by have hzz:=hb1.size;(try simp at hzz);omega))|(go_at_call 95;refine (Zbc _ _ _ _).mono ?_;rintro e w' ⟨rfl,rfl⟩))
  go_ret
  exact ⟨by simp,bel⟩
theorem ZdZ (at_:Int) (ss:List ByteArray) (F K:Nat) (hF:F≤K) (h:K<ss.length):(ZbW at_ ss F (K - F)).set K (ZbM ss[K] at_)=ZbW at_ ss F (K+1 - F):=by
 obtain ⟨j,rfl⟩:∃ j,K=F+j:=⟨K - F,by omega⟩
 rw [show F+j - F=j by omega,show F+j+1 - F=j+1 by omega]
 exact ZlI at_ ss F j h
theorem ZeJ {c:UInt8} {at_:Int} {ss:List ByteArray} {F K:Nat} (hF:F≤K) (h:K<ss.length) (ha:ZcO c at_ ss F (K - F)=true) (hc:Zaj c ss[K] at_=true):ZcO c at_ ss F (K+1 - F)=true:=by
 obtain ⟨j,rfl⟩:∃ j,K=F+j:=⟨K - F,by omega⟩
 rw [show F+j - F=j by omega] at ha
 rw [show F+j+1 - F=j+1 by omega,ZmO c at_ ss F j h,ha,hc];rfl
theorem ZeA {c:UInt8} {at_:Int} {ss:List ByteArray} {F K m:Nat} (hF:F≤K) (h:K<ss.length) (hm:K<m) (hc:Zaj c ss[K] at_=false):ZcO c at_ ss F (m - F)=false:=by
 obtain ⟨j,rfl⟩:∃ j,K=F+j:=⟨K - F,by omega⟩
 exact ZmP h (by omega) hc
theorem ZgU {c:UInt8} {d f:Int} {ss:List ByteArray} {F L at_:Int} (h:Zcb d f ss ss.length F L=false):Zax c d f ss F L at_=(ss,false):=by
 unfold Zax;rw [if_neg (by rw [h];simp)]
theorem Ze2 {c:UInt8} {d f:Int} {ss:List ByteArray} {F L:Nat} {at_:Int} (h:ZcO c at_ ss F (L+1 - F)=false):Zax c d f ss F L at_=(ss,false):=by
 unfold Zax;simp only [Int.toNat_natCast];rw [if_neg (by rw [h];simp)]
theorem Zex {c:UInt8} {d f:Int} {ss:List ByteArray} {F L:Nat} {at_:Int} (h0:Zcb d f ss ss.length F L=true) (h:ZcO c at_ ss F (L+1 - F)=true):Zax c d f ss F L at_=(ZbW at_ ss F (L+1 - F),true):=by
 unfold Zax;simp only [Int.toNat_natCast];rw [if_pos ⟨h0,h⟩]
theorem Zeb {d f:Int} {ss:List ByteArray} {n:Nat} {F L:Int} (h:Zcb d f ss n F L=true):0≤F∧F≤L∧L<(n:Int):=by
 unfold Zcb at h
 simp only [Bool.and_eq_true,Zeu,decide_eq_true_eq] at h
 omega
theorem ZaJ.grown {w w':World} {B n g:Nat} {A:Option Addr} {ss:List ByteArray} (h:ZaJ w B A n ss) (hg:w.grownBy w' (some g)) (hB:B≤g) (hw:B≤w.heap.size):ZaJ w' B A n ss :=
 h.keep fun p hp=>World.cell?_of_block (hg.block p.block (by omega) (by intro e;injection e;omega))
theorem Zhm (d f:Int) (B:Nat) (A:Option Addr) (n c:Nat) (ss:List ByteArray) (F L T:Int) (w:World) (hS:ZaJ w B A n ss) (hB:B≤w.heap.size) :
  Calls Tryz.prog 235 #[.agg #[.int .i64 d,.int .i64 f,.slice A n c],.agg #[.int .i64 F,.int .i64 L,.int .i64 T],.func (.func 237) #[] #[]] w (ZaT w.heap.size d f (Zax 102 d f ss F L T).1 (Zax 102 d f ss F L T).2 w):=by
 have hn:=hS.nb
 have hl:=hS.len
 have hS2:=((hS.alloc hB (.cells #[.int .i64 d,.int .i64 f,.slice A n c] 26)).alloc (by simp;omega) (.cells #[.int .i64 F,.int .i64 L,.int .i64 T] 165)).alloc (by simp;omega) (.cells #[.int .i64 0,.int .i64 0,.slice none 0 0] 26)
 have hsr:=hS2.rd
 have HL:=Lib.hid hl
 cases hh:Zcb d f ss n F L
 ·have HP:=Lib.hid (ZgU (c:=102) (at_:=T) (show Zcb d f ss ss.length F L=false by rw [hl];exact hh))
  clear hl
  go_enter Tryz.func235,Tryz.ntmps235
  go_wp2_with (first|(go_at_call 267;refine (Zf3 _ _ B _ _ _ ss _ _ _ _ hS2 (by simp;omega)).mono ?_;rw [hh];rintro e w1 ⟨rfl,hb1⟩;obtain ⟨hcb,hfb⟩:=Zw hb1;obtain ⟨qaa,qba,qca,qda,qea,qfa⟩:=zs3 (show w.heap.size+1+1<w1.heap.size by have hzz:=hb1.size;(try simp at hzz);omega);have hS3:=hS2.below (hb1.mono (by simp;omega)))|(go_at_call 122;refine (Zbm _ _ B _ _ _ ss _ hS3 (by omega)).mono ?_;rintro e w2 ⟨A1,c1,rfl,ho2,hb2⟩;obtain ⟨hcb2,hfb2⟩:=Zw hb2;obtain ⟨qga,qha,qia,qja,qka,qla⟩:=zs3 (show w.heap.size+1+1<w2.heap.size by have hzz:=hb2.size;(try simp at hzz);omega)))
  refine bodyPost_ret (v:=.tuple #[.agg #[.int .i64 d,.int .i64 f,.slice A1 ss.length c1],.bool false]) (by simp [results,Tryz.results235,go_sem, *]) rfl ?_
  rw [HP.out]
  exact ⟨A1,c1,rfl,ZaD ho2 upr (by first|exact Nat.le_refl _|(simp;done)|omega|(simp;omega)|exact (‹_∧_∧Below _ _ _›).2.2.size),bel⟩
 ·obtain ⟨hF0,hFL,hLn⟩:=Zeb hh
  obtain ⟨F,rfl⟩:=Int.eq_ofNat_of_zero_le hF0
  obtain ⟨L,rfl⟩:=Int.eq_ofNat_of_zero_le (show 0≤L by omega)
  have hFL':F≤L:=by omega
  have hLn':L<n:=by omega
  have HH:=Lib.hid (show Zcb d f ss ss.length F L=true by rw [hl];exact hh)
  clear hl hF0 hFL hLn hsr
  go_enter Tryz.func235,Tryz.ntmps235
  go_wp2_with (first|(go_at_call 267;refine (Zf3 _ _ B _ _ _ ss _ _ _ _ hS2 (by simp;omega)).mono ?_;rw [hh];rintro e w1 ⟨rfl,hb1⟩;obtain ⟨hcb,hfb⟩:=Zw hb1;obtain ⟨qaa,qba,qca,qda,qea,qfa⟩:=zs3 (show w.heap.size+1+1<w1.heap.size by have hzz:=hb1.size;(try simp at hzz);omega);have hS3:=hS2.below (hb1.mono (by simp;omega)))|(go_at_call 122;refine (Zbm _ _ B _ _ _ ss _ hS3 (by omega)).mono ?_;rintro e w2 ⟨A1,c1,rfl,ho2,hb2⟩;obtain ⟨hcb2,hfb2⟩:=Zw hb2;obtain ⟨qga,qha,qia,qja,qka,qla⟩:=zs3 (show w.heap.size+1+1<w2.heap.size by have hzz:=hb2.size;(try simp at hzz);omega);(have hnl:0<ss.length:=(by have:=HL.out;omega));obtain ⟨g,cap,hv,hbg,hglt⟩:=ho2.form hnl;(have hA:A1=some ⟨g,0,none⟩:=(by injection hv));subst hA;clear hv;have hS4:=hS3.below (hb2.mono (by omega))))
  have ho3:=ho2.alloc (.cells #[.int .i64 d,.int .i64 f,.slice (some ⟨g,0,none⟩) ss.length c1] 26)
  have hbA:Below w2.heap.size w2 (w2.alloc (.cells #[.int .i64 d,.int .i64 f,.slice (some ⟨g,0,none⟩) ss.length c1] 26)):=bel
  have hko:(w2.alloc (.cells #[.int .i64 d,.int .i64 f,.slice (some ⟨g,0,none⟩) ss.length c1] 26)).heap[w2.heap.size]?=some (.cells #[.int .i64 d,.int .i64 f,.slice (some ⟨g,0,none⟩) ss.length c1] 26):=Zy w2 (.cells #[.int .i64 d,.int .i64 f,.slice (some ⟨g,0,none⟩) ss.length c1] 26)
  have hb3:Below w.heap.size w (w2.alloc (.cells #[.int .i64 d,.int .i64 f,.slice (some ⟨g,0,none⟩) ss.length c1] 26)):=bel
  have hS5:=hS4.below (hbA.mono (by omega))
  have hwg:w.heap.size≤g:=by omega
  have hBg:B≤g:=by omega
  have qya:w.heap.size+3≤g:=(by have hzz:=hbg;(try simp at hzz);omega);have qma:g≠w.heap.size:=(by have hzz:=hbg;(try simp at hzz);omega);have qpa:=Ne.symm qma;have qna:g≠w.heap.size+1:=(by have hzz:=hbg;(try simp at hzz);omega);have qqa:=Ne.symm qna;have qoa:g≠w.heap.size+1+1:=(by have hzz:=hbg;(try simp at hzz);omega);have qra:=Ne.symm qoa
  go_loopw [9,10,11] (fun kk _ _ wr=>∃ K:Nat,F≤K∧K≤L+1∧kk=.int .i64 K∧Hid (ZcO 102 T ss F (K - F)=true)∧wr.ownsRow w1.heap.size 9 1 (.slice (some ⟨g,0,none⟩) ss.length c1) ss.length ((ZbW T ss F (K - F)).map Value.string)∧(w2.alloc (.cells #[.int .i64 d,.int .i64 f,.slice (some ⟨g,0,none⟩) ss.length c1] 26)).grownBy wr (some g)) (fun kk _ _ _=>L+1 - (intOf kk).toNat)
  case atStart=>exact ⟨F,Nat.le_refl _,by omega,rfl,by rw [Nat.sub_self];exact Zfe _ _ _ _,by rw [Nat.sub_self,ZeB];exact ho3,World.grownBy.refl _ _⟩
  case round =>
   obtain ⟨K,hFK,hKL,rfl,HA,hown,hg⟩:=hrel
   have hbr:Below w.heap.size w wr:=Zdx hb3 hg hwg
   have hSr:=hS5.grown hg hBg (by simp;omega)
   have hzr:w2.heap.size+1≤wr.heap.size:=by have:=hg.size;simpa using this
   obtain ⟨hx0,hx1,hx2,hxl⟩:=Za8 ((hg.block w2.heap.size (by simp) (by intro e;injection e;omega)).trans hko)
   have hcb3:∀ b o,b<w2.heap.size→b≠g→wr.cell? ⟨b,o,none⟩=w2.cell? ⟨b,o,none⟩:=fun b o h hne=>((Zg0 hg).1 b o (by simp;omega) hne).trans ((Zw hbA).1 b o h)
   have hfb3:∀ b o,b<w2.heap.size→b≠g→wr.frozen? ⟨b,o,none⟩=w2.frozen? ⟨b,o,none⟩:=fun b o h hne=>((Zg0 hg).2 b o (by simp;omega) hne).trans ((Zw hbA).2 b o h)
   have hz0:w.heap.size<wr.heap.size:=by omega
   have hz1:w.heap.size+1<wr.heap.size:=by omega
   have hz2:w.heap.size+1+1<wr.heap.size:=by omega
   by_cases hlt:K≤L
   ·obtain ⟨hKs,ad,hAad,hab,hx,hsz⟩:=hSr.at_ (k:=K) (by omega)
    subst hAad
    have hKn:K<n:=by omega
    have hKl:K<ss.length:=hKs
    have hq:∀ W:World,Calls Tryz.prog 237 #[.string ss[K],.int .i64 T] W fun e w'=>e=.returned (.tuple #[.string (Zb8 102 ss[K] T),.bool (Zaj 102 ss[K] T)])∧∃ m,w'=W.drewN m:=fun W=>ZnC _ _ W hsz
    cases hcc:Zaj 102 ss[K] T
    ·rw [hcc] at hq
     have HQ:=Zk hq
     clear hq
     have HP:=Lib.hid (Ze2 (d:=d) (f:=f) (L:=L) (ZeA (m:=L+1) hFK hKs (by omega) hcc))
     clear hcc
     go_wp2
     go_quiet ((go_at_call 237;first|exact Zdk (Ze HQ _)|exact ZcL (Ze HQ _)))
     go_wp2_with (go_at_call 122;refine (Zbm _ _ B _ _ _ ss _ (hSr.drewN _) (by simp;omega)).mono ?_;rintro e w4 ⟨A4,c4,rfl,ho4,hb4'⟩;(have hb4:Below wr.heap.size wr w4:=⟨hb4'.os,hb4'.tape,hb4'.output,hb4'.size,hb4'.block⟩);clear hb4';obtain ⟨hcb4,hfb4⟩:=Zw hb4;obtain ⟨qsa,qta,qua,qva,qwa,qxa⟩:=zs3 (show w.heap.size+1+1<w4.heap.size by have hzz:=hb4.size;(try simp at hzz);omega))
     refine bodyPost_ret (v:=.tuple #[.agg #[.int .i64 d,.int .i64 f,.slice A4 ss.length c4],.bool false]) (by simp [results,Tryz.results235,go_sem, *]) rfl ?_
     rw [HP.out]
     exact ⟨A4,c4,rfl,ZaD ho4 upr (by first|exact Nat.le_refl _|(simp;done)|omega|(simp;omega)|exact (‹_∧_∧Below _ _ _›).2.2.size),bel⟩
    ·rw [hcc,show Zb8 102 ss[K] T=ZbM ss[K] T by unfold Zb8;rw [if_pos hcc]] at hq
     have HQ:=Zk hq
     clear hq
     have HA2:=Lib.hid (ZeJ hFK hKs HA.out hcc)
     have HFS:=Lib.hid (ZdZ T ss F K hFK hKs)
     clear hcc
     obtain ⟨u1,hc1⟩:=ZdP hown (j:=K) hKl
     have hf1:=hown.frozenAt K
     go_wp2
     go_quiet ((go_at_call 237;first|exact Zdk (Ze HQ _)|exact ZcL (Ze HQ _)))
     go_wp2
     go_roundw
     case rel =>
      have hst:=hown.stored K (.string (ZbM ss[K] T))
      have ho5:=hst.1
      rw [Zfm,HFS.out] at ho5
      have hg5:=ZbT hg hst.2
      exact ⟨K+1,by omega,by omega,by go_num,HA2.out,by first|exact ho5|exact ho5.drewN _,by first|exact hg5|exact ZeF hg5 _⟩
     case measure=>simp [intOf];omega
   ·have hKe:K=L+1:=by omega
    subst hKe
    have HP:=Lib.hid (Zex HH.out HA.out)
    have HFL:=Lib.hid (Zcj T ss F (L+1 - F))
    go_wp2
    refine bodyPost_ret (v:=.tuple #[.agg #[.int .i64 d,.int .i64 f,.slice (some ⟨g,0,none⟩) ss.length c1],.bool true]) (by simp [results,Tryz.results235,go_sem, *]) rfl ?_
    rw [HP.out]
    unfold ZaT
    dsimp only
    rw [HFL.out]
    exact ⟨_,c1,rfl,ZaD hown upr (by first|exact Nat.le_refl _|(simp;done)|omega|(simp;omega)|exact (‹_∧_∧Below _ _ _›).2.2.size),bel⟩
theorem Zhn (d f:Int) (B:Nat) (A:Option Addr) (n c:Nat) (ss:List ByteArray) (F L T:Int) (w:World) (hS:ZaJ w B A n ss) (hB:B≤w.heap.size) :
  Calls Tryz.prog 235 #[.agg #[.int .i64 d,.int .i64 f,.slice A n c],.agg #[.int .i64 F,.int .i64 L,.int .i64 T],.func (.func 236) #[] #[]] w (ZaT w.heap.size d f (Zax 100 d f ss F L T).1 (Zax 100 d f ss F L T).2 w):=by
 have hn:=hS.nb
 have hl:=hS.len
 have hS2:=((hS.alloc hB (.cells #[.int .i64 d,.int .i64 f,.slice A n c] 26)).alloc (by simp;omega) (.cells #[.int .i64 F,.int .i64 L,.int .i64 T] 165)).alloc (by simp;omega) (.cells #[.int .i64 0,.int .i64 0,.slice none 0 0] 26)
 have hsr:=hS2.rd
 have HL:=Lib.hid hl
 cases hh:Zcb d f ss n F L
 ·have HP:=Lib.hid (ZgU (c:=100) (at_:=T) (show Zcb d f ss ss.length F L=false by rw [hl];exact hh))
  clear hl
  go_enter Tryz.func235,Tryz.ntmps235
  go_wp2_with (first|(go_at_call 267;refine (Zf3 _ _ B _ _ _ ss _ _ _ _ hS2 (by simp;omega)).mono ?_;rw [hh];rintro e w1 ⟨rfl,hb1⟩;obtain ⟨hcb,hfb⟩:=Zw hb1;obtain ⟨qaa,qba,qca,qda,qea,qfa⟩:=zs3 (show w.heap.size+1+1<w1.heap.size by have hzz:=hb1.size;(try simp at hzz);omega);have hS3:=hS2.below (hb1.mono (by simp;omega)))|(go_at_call 122;refine (Zbm _ _ B _ _ _ ss _ hS3 (by omega)).mono ?_;rintro e w2 ⟨A1,c1,rfl,ho2,hb2⟩;obtain ⟨hcb2,hfb2⟩:=Zw hb2;obtain ⟨qga,qha,qia,qja,qka,qla⟩:=zs3 (show w.heap.size+1+1<w2.heap.size by have hzz:=hb2.size;(try simp at hzz);omega)))
  refine bodyPost_ret (v:=.tuple #[.agg #[.int .i64 d,.int .i64 f,.slice A1 ss.length c1],.bool false]) (by simp [results,Tryz.results235,go_sem, *]) rfl ?_
  rw [HP.out]
  exact ⟨A1,c1,rfl,ZaD ho2 upr (by first|exact Nat.le_refl _|(simp;done)|omega|(simp;omega)|exact (‹_∧_∧Below _ _ _›).2.2.size),bel⟩
 ·obtain ⟨hF0,hFL,hLn⟩:=Zeb hh
  obtain ⟨F,rfl⟩:=Int.eq_ofNat_of_zero_le hF0
  obtain ⟨L,rfl⟩:=Int.eq_ofNat_of_zero_le (show 0≤L by omega)
  have hFL':F≤L:=by omega
  have hLn':L<n:=by omega
  have HH:=Lib.hid (show Zcb d f ss ss.length F L=true by rw [hl];exact hh)
  clear hl hF0 hFL hLn hsr
  go_enter Tryz.func235,Tryz.ntmps235
  go_wp2_with (first|(go_at_call 267;refine (Zf3 _ _ B _ _ _ ss _ _ _ _ hS2 (by simp;omega)).mono ?_;rw [hh];rintro e w1 ⟨rfl,hb1⟩;obtain ⟨hcb,hfb⟩:=Zw hb1;obtain ⟨qaa,qba,qca,qda,qea,qfa⟩:=zs3 (show w.heap.size+1+1<w1.heap.size by have hzz:=hb1.size;(try simp at hzz);omega);have hS3:=hS2.below (hb1.mono (by simp;omega)))|(go_at_call 122;refine (Zbm _ _ B _ _ _ ss _ hS3 (by omega)).mono ?_;rintro e w2 ⟨A1,c1,rfl,ho2,hb2⟩;obtain ⟨hcb2,hfb2⟩:=Zw hb2;obtain ⟨qga,qha,qia,qja,qka,qla⟩:=zs3 (show w.heap.size+1+1<w2.heap.size by have hzz:=hb2.size;(try simp at hzz);omega);(have hnl:0<ss.length:=(by have:=HL.out;omega));obtain ⟨g,cap,hv,hbg,hglt⟩:=ho2.form hnl;(have hA:A1=some ⟨g,0,none⟩:=(by injection hv));subst hA;clear hv;have hS4:=hS3.below (hb2.mono (by omega))))
  have ho3:=ho2.alloc (.cells #[.int .i64 d,.int .i64 f,.slice (some ⟨g,0,none⟩) ss.length c1] 26)
  have hbA:Below w2.heap.size w2 (w2.alloc (.cells #[.int .i64 d,.int .i64 f,.slice (some ⟨g,0,none⟩) ss.length c1] 26)):=bel
  have hko:(w2.alloc (.cells #[.int .i64 d,.int .i64 f,.slice (some ⟨g,0,none⟩) ss.length c1] 26)).heap[w2.heap.size]?=some (.cells #[.int .i64 d,.int .i64 f,.slice (some ⟨g,0,none⟩) ss.length c1] 26):=Zy w2 (.cells #[.int .i64 d,.int .i64 f,.slice (some ⟨g,0,none⟩) ss.length c1] 26)
  have hb3:Below w.heap.size w (w2.alloc (.cells #[.int .i64 d,.int .i64 f,.slice (some ⟨g,0,none⟩) ss.length c1] 26)):=bel
  have hS5:=hS4.below (hbA.mono (by omega))
  have hwg:w.heap.size≤g:=by omega
  have hBg:B≤g:=by omega
  have qya:w.heap.size+3≤g:=(by have hzz:=hbg;(try simp at hzz);omega);have qma:g≠w.heap.size:=(by have hzz:=hbg;(try simp at hzz);omega);have qpa:=Ne.symm qma;have qna:g≠w.heap.size+1:=(by have hzz:=hbg;(try simp at hzz);omega);have qqa:=Ne.symm qna;have qoa:g≠w.heap.size+1+1:=(by have hzz:=hbg;(try simp at hzz);omega);have qra:=Ne.symm qoa
  go_loopw [9,10,11] (fun kk _ _ wr=>∃ K:Nat,F≤K∧K≤L+1∧kk=.int .i64 K∧Hid (ZcO 100 T ss F (K - F)=true)∧wr.ownsRow w1.heap.size 9 1 (.slice (some ⟨g,0,none⟩) ss.length c1) ss.length ((ZbW T ss F (K - F)).map Value.string)∧(w2.alloc (.cells #[.int .i64 d,.int .i64 f,.slice (some ⟨g,0,none⟩) ss.length c1] 26)).grownBy wr (some g)) (fun kk _ _ _=>L+1 - (intOf kk).toNat)
  case atStart=>exact ⟨F,Nat.le_refl _,by omega,rfl,by rw [Nat.sub_self];exact Zfe _ _ _ _,by rw [Nat.sub_self,ZeB];exact ho3,World.grownBy.refl _ _⟩
  case round =>
   obtain ⟨K,hFK,hKL,rfl,HA,hown,hg⟩:=hrel
   have hbr:Below w.heap.size w wr:=Zdx hb3 hg hwg
   have hSr:=hS5.grown hg hBg (by simp;omega)
   have hzr:w2.heap.size+1≤wr.heap.size:=by have:=hg.size;simpa using this
   obtain ⟨hx0,hx1,hx2,hxl⟩:=Za8 ((hg.block w2.heap.size (by simp) (by intro e;injection e;omega)).trans hko)
   have hcb3:∀ b o,b<w2.heap.size→b≠g→wr.cell? ⟨b,o,none⟩=w2.cell? ⟨b,o,none⟩:=fun b o h hne=>((Zg0 hg).1 b o (by simp;omega) hne).trans ((Zw hbA).1 b o h)
   have hfb3:∀ b o,b<w2.heap.size→b≠g→wr.frozen? ⟨b,o,none⟩=w2.frozen? ⟨b,o,none⟩:=fun b o h hne=>((Zg0 hg).2 b o (by simp;omega) hne).trans ((Zw hbA).2 b o h)
   have hz0:w.heap.size<wr.heap.size:=by omega
   have hz1:w.heap.size+1<wr.heap.size:=by omega
   have hz2:w.heap.size+1+1<wr.heap.size:=by omega
   by_cases hlt:K≤L
   ·obtain ⟨hKs,ad,hAad,hab,hx,hsz⟩:=hSr.at_ (k:=K) (by omega)
    subst hAad
    have hKn:K<n:=by omega
    have hKl:K<ss.length:=hKs
    have hq:∀ W:World,Calls Tryz.prog 236 #[.string ss[K],.int .i64 T] W fun e w'=>e=.returned (.tuple #[.string (Zb8 100 ss[K] T),.bool (Zaj 100 ss[K] T)])∧∃ m,w'=W.drewN m:=fun W=>Zm7 _ _ W hsz
    cases hcc:Zaj 100 ss[K] T
    ·rw [hcc] at hq
     have HQ:=Zk hq
     clear hq
     have HP:=Lib.hid (Ze2 (d:=d) (f:=f) (L:=L) (ZeA (m:=L+1) hFK hKs (by omega) hcc))
     clear hcc
     go_wp2
     go_quiet ((go_at_call 236;first|exact Zdk (Ze HQ _)|exact ZcL (Ze HQ _)))
     go_wp2_with (go_at_call 122;refine (Zbm _ _ B _ _ _ ss _ (hSr.drewN _) (by simp;omega)).mono ?_;rintro e w4 ⟨A4,c4,rfl,ho4,hb4'⟩;(have hb4:Below wr.heap.size wr w4:=⟨hb4'.os,hb4'.tape,hb4'.output,hb4'.size,hb4'.block⟩);clear hb4';obtain ⟨hcb4,hfb4⟩:=Zw hb4;obtain ⟨qsa,qta,qua,qva,qwa,qxa⟩:=zs3 (show w.heap.size+1+1<w4.heap.size by have hzz:=hb4.size;(try simp at hzz);omega))
     refine bodyPost_ret (v:=.tuple #[.agg #[.int .i64 d,.int .i64 f,.slice A4 ss.length c4],.bool false]) (by simp [results,Tryz.results235,go_sem, *]) rfl ?_
     rw [HP.out]
     exact ⟨A4,c4,rfl,ZaD ho4 upr (by first|exact Nat.le_refl _|(simp;done)|omega|(simp;omega)|exact (‹_∧_∧Below _ _ _›).2.2.size),bel⟩
    ·rw [hcc,show Zb8 100 ss[K] T=ZbM ss[K] T by unfold Zb8;rw [if_pos hcc]] at hq
     have HQ:=Zk hq
     clear hq
     have HA2:=Lib.hid (ZeJ hFK hKs HA.out hcc)
     have HFS:=Lib.hid (ZdZ T ss F K hFK hKs)
     clear hcc
     obtain ⟨u1,hc1⟩:=ZdP hown (j:=K) hKl
     have hf1:=hown.frozenAt K
     go_wp2
     go_quiet ((go_at_call 236;first|exact Zdk (Ze HQ _)|exact ZcL (Ze HQ _)))
     go_wp2
     go_roundw
     case rel =>
      have hst:=hown.stored K (.string (ZbM ss[K] T))
      have ho5:=hst.1
      rw [Zfm,HFS.out] at ho5
      have hg5:=ZbT hg hst.2
      exact ⟨K+1,by omega,by omega,by go_num,HA2.out,by first|exact ho5|exact ho5.drewN _,by first|exact hg5|exact ZeF hg5 _⟩
     case measure=>simp [intOf];omega
   ·have hKe:K=L+1:=by omega
    subst hKe
    have HP:=Lib.hid (Zex HH.out HA.out)
    have HFL:=Lib.hid (Zcj T ss F (L+1 - F))
    go_wp2
    refine bodyPost_ret (v:=.tuple #[.agg #[.int .i64 d,.int .i64 f,.slice (some ⟨g,0,none⟩) ss.length c1],.bool true]) (by simp [results,Tryz.results235,go_sem, *]) rfl ?_
    rw [HP.out]
    unfold ZaT
    dsimp only
    rw [HFL.out]
    exact ⟨_,c1,rfl,ZaD hown upr (by first|exact Nat.le_refl _|(simp;done)|omega|(simp;omega)|exact (‹_∧_∧Below _ _ _›).2.2.size),bel⟩
theorem Zjl (d f:Int) (B:Nat) (A:Option Addr) (n c:Nat) (ss:List ByteArray) (F L T:Int) (w:World) (hS:ZaJ w B A n ss) (hB:B≤w.heap.size) :
  Calls Tryz.prog 189 #[.agg #[.int .i64 d,.int .i64 f,.slice A n c],.agg #[.int .i64 F,.int .i64 L,.int .i64 T]] w (ZaT w.heap.size d f (Zax 102 d f ss F L T).1 (Zax 102 d f ss F L T).2 w):=by
 have hS2:=((hS.alloc hB (.cells #[.int .i64 d,.int .i64 f,.slice A n c] 26)).alloc (by simp;omega) (.cells #[.int .i64 F,.int .i64 L,.int .i64 T] 165)).alloc (by simp;omega) (.cells #[.int .i64 0,.int .i64 0,.slice none 0 0] 26)
 go_enter Tryz.func189,Tryz.ntmps189
 go_wp2_with (go_at_call 235;refine (Zhm _ _ B _ _ _ ss _ _ _ _ hS2 (by simp;omega)).mono ?_;rintro e w1 ⟨A1,c1,rfl,ho1,hb1⟩;obtain ⟨hcb,hfb⟩:=Zw hb1;obtain ⟨qaa,qba,qca,qda,qea,qfa⟩:=zs3 (show w.heap.size+1+1<w1.heap.size by have hzz:=hb1.size;(try simp at hzz);omega))
 refine bodyPost_ret (v:=.tuple #[.agg #[.int .i64 d,.int .i64 f,.slice A1 _ c1],.bool _]) (by simp [results,Tryz.results189,go_sem, *];exact ⟨rfl,rfl⟩) rfl ?_
 exact ⟨A1,c1,rfl,ZaD ho1 upr (by first|exact Nat.le_refl _|(simp;done)|omega|(simp;omega)|exact (‹_∧_∧Below _ _ _›).2.2.size),bel⟩
theorem ZkS (d f:Int) (B:Nat) (A:Option Addr) (n c:Nat) (ss:List ByteArray) (F L T:Int) (w:World) (hS:ZaJ w B A n ss) (hB:B≤w.heap.size) :
  Calls Tryz.prog 188 #[.agg #[.int .i64 d,.int .i64 f,.slice A n c],.agg #[.int .i64 F,.int .i64 L,.int .i64 T]] w (ZaT w.heap.size d f (Zax 100 d f ss F L T).1 (Zax 100 d f ss F L T).2 w):=by
 have hS2:=((hS.alloc hB (.cells #[.int .i64 d,.int .i64 f,.slice A n c] 26)).alloc (by simp;omega) (.cells #[.int .i64 F,.int .i64 L,.int .i64 T] 165)).alloc (by simp;omega) (.cells #[.int .i64 0,.int .i64 0,.slice none 0 0] 26)
 go_enter Tryz.func188,Tryz.ntmps188
 go_wp2_with (go_at_call 235;refine (Zhn _ _ B _ _ _ ss _ _ _ _ hS2 (by simp;omega)).mono ?_;rintro e w1 ⟨A1,c1,rfl,ho1,hb1⟩;obtain ⟨hcb,hfb⟩:=Zw hb1;obtain ⟨qaa,qba,qca,qda,qea,qfa⟩:=zs3 (show w.heap.size+1+1<w1.heap.size by have hzz:=hb1.size;(try simp at hzz);omega))
 refine bodyPost_ret (v:=.tuple #[.agg #[.int .i64 d,.int .i64 f,.slice A1 _ c1],.bool _]) (by simp [results,Tryz.results188,go_sem, *];exact ⟨rfl,rfl⟩) rfl ?_
 exact ⟨A1,c1,rfl,ZaD ho1 upr (by first|exact Nat.le_refl _|(simp;done)|omega|(simp;omega)|exact (‹_∧_∧Below _ _ _›).2.2.size),bel⟩
end Go.Proofs.YtlimlolciekimaaGreatDoor
