/- Contracts of the program's and the reference's functions (Flip1, Flip2, Box1, Box2). -/
import Derived.Lib.Strings
import Derived.WalkLawsBesides
import Derived.WalkSpells
import Derived.Test.YtlimlolciekimaaGreatDoorRows
import Derived.Test.YtlimlolciekimaaGreatDoorQUa
import Derived.Test.YtlimlolciekimaaGreatDoorQUb
namespace Go.Proofs.YtlimlolciekimaaGreatDoor
set_option maxHeartbeats 1600000
open Go.ChangeShapes Go.WideShapes Go.ChangeAt Go.RowKit
set_option linter.unusedVariables false
set_option maxRecDepth 10000
def chr (s:ByteArray) (k:Int):UInt8:=s.data.toList.getD k.toNat 0
def cornerAny (s:ByteArray) (k:Int):Bool:=inB k 1 ((s.size:Int) - 1)&&(chr s (k - 1) != chr s k)
def cornerB (c:UInt8) (s:ByteArray) (k:Int):Bool:=(isStrip s.data.toList&&cornerAny s k)&&(chr s (k - 1)==c)
def swapL (l:List UInt8) (k:Nat):List UInt8:=((l.take (k - 1)++(l.drop k).take 1)++(l.drop (k - 1)).take 1)++l.drop (k+1)
def swapB (s:ByteArray) (k:Int):ByteArray:=⟨(swapL s.data.toList k.toNat).toArray⟩
theorem inB_iff' {x a b:Int}:inB x a b=true↔a≤x∧x≤b:=by simp [inB]
theorem chr_get (s:ByteArray) (K:Nat) (h:K<s.size):chr s (K:Int)=s[K]:=by
 unfold chr
 rw [Int.toNat_natCast,List.getD_eq_getElem?_getD,List.getElem?_eq_getElem (by simpa using h)]
 rfl
theorem neq_bytes (a b:UInt8):(!((a.toNat:Int)==(b.toNat:Int)))=(a != b):=by
 by_cases h:a=b
 ·subst h;simp
 ·have h3:((a.toNat:Int)==(b.toNat:Int))=false:=by rw [beq_eq_false_iff_ne];intro h2;exact h (UInt8.toNat_inj.1 (by omega))
  have h4:(a==b)=false:=by rw [beq_eq_false_iff_ne];exact h
  rw [h3,bne,h4]
theorem eq_bytes (a b:UInt8):((a.toNat:Int)==(b.toNat:Int))=(a==b):=by
 have h:=neq_bytes a b
 rw [bne] at h
 exact Bool.not_inj h
theorem quiet_ex {P:Program} {f:FuncId} {args:Array Value} {w:World} {n:Nat} {v:Value}
  (h:Calls P f args (w.drewN n) fun e w'=>e=.returned v∧∃ m,w'=(w.drewN n).drewN m):Calls P f args (w.drewN n) fun e w''=>e=.returned v∧∃ m,w''=w.drewN m :=
 h.mono fun _ _ ⟨he,m,hm⟩=>⟨he,n+m,by rw [hm,World.drewN_drewN]⟩
theorem i_isCorner (s:ByteArray) (k:Int) (w:World) (hs:s.size≤16777216) :
  Calls Tryz.prog 283 #[.string s,.int .i64 k] w fun e w'=>e=.returned (.bool (cornerAny s k))∧∃ m,w'=w.drewN m:=by
 have hw1:IntKind.i64.wrap ((s.size:Int) - 1)=(s.size:Int) - 1:=by rw [IntWalk.i64_in _ (by omega)]
 have hq1:∀ (W:World) (v:Int),v=(s.size:Int) - 1→Calls Tryz.prog 71 #[.int .i64 k,.int .i64 1,.int .i64 v] W fun e w'=>e=.returned (.bool (inB k 1 ((s.size:Int) - 1)))∧W=w':=fun W v hv=>by rw [hv];exact i_within _ _ _ _
 have HW:=hide hw1
 clear hw1
 cases hk:inB k 1 ((s.size:Int) - 1)
 ·have HF:Hid (cornerAny s k=false):=by unfold Hid cornerAny;rw [hk];rfl
  rw [hk] at hq1
  have HQ1:=hide hq1
  clear hq1
  go_enter Tryz.func283,Tryz.ntmps283
  go_wp2
  go_quiet (((first|(go_at_call 71;first|exact quiet_left (unhide HQ1 _ _ (by first|with_reducible rfl|exact unhide HW))|exact quiet_add_left (unhide HQ1 _ _ (by first|with_reducible rfl|exact unhide HW))))))
  go_wp2
  go_ret
  exact ⟨ret_bool HF.out.symm,by first|exact ⟨0,rfl⟩|exact ⟨_,rfl⟩|exact ⟨_,World.drewN_drewN _ _ _⟩⟩
 ·rw [hk] at hq1
  have HQ1:=hide hq1
  clear hq1
  have hb:=inB_iff'.1 hk
  obtain ⟨L,rfl⟩:=Int.eq_ofNat_of_zero_le (show 0≤k by omega)
  obtain ⟨K,hKL⟩:∃ K,L=K+1:=⟨L - 1,by omega⟩
  have hL:L<s.size:=by omega
  have hK:K<s.size:=by omega
  have e1:((L:Int) - 1)=(K:Int):=by omega
  have w1:IntKind.i64.wrap ((L:Int) - 1)=(K:Int):=by rw [e1,IntWalk.i64_in _ (by omega)]
  have HF:Hid (cornerAny s L=(s[K] != s[L])):=by unfold Hid cornerAny;rw [hk,e1,chr_get s K hK,chr_get s L hL];rfl
  have HK:=hide hk
  have HKL:=Lib.hid hKL
  clear hk hb hKL e1
  go_enter Tryz.func283,Tryz.ntmps283
  go_wp2
  go_quiet (((first|(go_at_call 71;first|exact quiet_left (unhide HQ1 _ _ (by first|with_reducible rfl|exact unhide HW))|exact quiet_add_left (unhide HQ1 _ _ (by first|with_reducible rfl|exact unhide HW))))))
  go_wp2
  go_ret
  exact ⟨ret_bool (by rw [HF.out];exact neq_bytes _ _),by first|exact ⟨0,rfl⟩|exact ⟨_,rfl⟩|exact ⟨_,World.drewN_drewN _ _ _⟩⟩
theorem i_IsMountain (s:ByteArray) (k:Int) (w:World) (hs:s.size≤16777216) :
  Calls Tryz.prog 270 #[.string s,.int .i64 k] w fun e w'=>e=.returned (.bool (cornerB 102 s k))∧∃ m,w'=w.drewN m:=by
 have hq1:∀ W:World,Calls Tryz.prog 168 #[.string s] W fun e w'=>e=.returned (.bool (isStrip s.data.toList))∧W=w':=fun W=>i_IsStrip s W (by unfold maxLen;omega)
 have hq2:∀ W:World,Calls Tryz.prog 283 #[.string s,.int .i64 k] W fun e w'=>e=.returned (.bool (cornerAny s k))∧∃ m,w'=W.drewN m:=fun W=>i_isCorner s k W hs
 cases hi:isStrip s.data.toList
 ·have HF:Hid (cornerB 102 s k=false):=by unfold Hid cornerB;rw [hi];rfl
  rw [hi] at hq1
  have HQ1:=hide hq1
  clear hq1 hq2
  go_enter Tryz.func270,Tryz.ntmps270
  go_wp2_with (first|(go_at_call 168;refine (unhide HQ1 _).mono ?_;rintro e w' ⟨rfl,rfl⟩)|(go_at_call 283;refine (unhide HQ2 _).mono ?_;rintro e w' ⟨rfl,m,rfl⟩))
  go_ret
  exact ⟨ret_bool HF.out.symm,by first|exact ⟨0,rfl⟩|exact ⟨_,rfl⟩|exact ⟨_,World.drewN_drewN _ _ _⟩⟩
 rw [hi] at hq1
 have HQ1:=hide hq1
 clear hq1
 cases hk:cornerAny s k
 ·have HF:Hid (cornerB 102 s k=false):=by unfold Hid cornerB;rw [hk,hi];rfl
  rw [hk] at hq2
  have HQ2:=hide hq2
  clear hq2
  go_enter Tryz.func270,Tryz.ntmps270
  go_wp2_with (first|(go_at_call 168;refine (unhide HQ1 _).mono ?_;rintro e w' ⟨rfl,rfl⟩)|(go_at_call 283;refine (unhide HQ2 _).mono ?_;rintro e w' ⟨rfl,m,rfl⟩))
  go_ret
  exact ⟨ret_bool HF.out.symm,by first|exact ⟨0,rfl⟩|exact ⟨_,rfl⟩|exact ⟨_,World.drewN_drewN _ _ _⟩⟩
 ·rw [hk] at hq2
  have HQ2:=hide hq2
  clear hq2
  have hb:=inB_iff'.1 (show inB k 1 ((s.size:Int) - 1)=true by unfold cornerAny at hk;exact (Bool.and_eq_true_iff.1 hk).1)
  obtain ⟨L,rfl⟩:=Int.eq_ofNat_of_zero_le (show 0≤k by omega)
  obtain ⟨K,hKL⟩:∃ K,L=K+1:=⟨L - 1,by omega⟩
  have hL:L<s.size:=by omega
  have hK:K<s.size:=by omega
  have e1:((L:Int) - 1)=(K:Int):=by omega
  have w1:IntKind.i64.wrap ((L:Int) - 1)=(K:Int):=by rw [e1,IntWalk.i64_in _ (by omega)]
  have HF:Hid (cornerB 102 s L=(s[K]==(102:UInt8))):=by unfold Hid cornerB;rw [hk,hi,e1,chr_get s K hK];rfl
  have HKL:=Lib.hid hKL
  clear hk hb hKL e1
  go_enter Tryz.func270,Tryz.ntmps270
  go_wp2_with (first|(go_at_call 168;refine (unhide HQ1 _).mono ?_;rintro e w' ⟨rfl,rfl⟩)|(go_at_call 283;refine (unhide HQ2 _).mono ?_;rintro e w' ⟨rfl,m,rfl⟩))
  go_ret
  exact ⟨ret_bool (by rw [HF.out];exact eq_bytes s[K] 102),by first|exact ⟨0,rfl⟩|exact ⟨_,rfl⟩|exact ⟨_,World.drewN_drewN _ _ _⟩⟩
theorem i_IsValley (s:ByteArray) (k:Int) (w:World) (hs:s.size≤16777216) :
  Calls Tryz.prog 282 #[.string s,.int .i64 k] w fun e w'=>e=.returned (.bool (cornerB 100 s k))∧∃ m,w'=w.drewN m:=by
 have hq1:∀ W:World,Calls Tryz.prog 168 #[.string s] W fun e w'=>e=.returned (.bool (isStrip s.data.toList))∧W=w':=fun W=>i_IsStrip s W (by unfold maxLen;omega)
 have hq2:∀ W:World,Calls Tryz.prog 283 #[.string s,.int .i64 k] W fun e w'=>e=.returned (.bool (cornerAny s k))∧∃ m,w'=W.drewN m:=fun W=>i_isCorner s k W hs
 cases hi:isStrip s.data.toList
 ·have HF:Hid (cornerB 100 s k=false):=by unfold Hid cornerB;rw [hi];rfl
  rw [hi] at hq1
  have HQ1:=hide hq1
  clear hq1 hq2
  go_enter Tryz.func282,Tryz.ntmps282
  go_wp2_with (first|(go_at_call 168;refine (unhide HQ1 _).mono ?_;rintro e w' ⟨rfl,rfl⟩)|(go_at_call 283;refine (unhide HQ2 _).mono ?_;rintro e w' ⟨rfl,m,rfl⟩))
  go_ret
  exact ⟨ret_bool HF.out.symm,by first|exact ⟨0,rfl⟩|exact ⟨_,rfl⟩|exact ⟨_,World.drewN_drewN _ _ _⟩⟩
 rw [hi] at hq1
 have HQ1:=hide hq1
 clear hq1
 cases hk:cornerAny s k
 ·have HF:Hid (cornerB 100 s k=false):=by unfold Hid cornerB;rw [hk,hi];rfl
  rw [hk] at hq2
  have HQ2:=hide hq2
  clear hq2
  go_enter Tryz.func282,Tryz.ntmps282
  go_wp2_with (first|(go_at_call 168;refine (unhide HQ1 _).mono ?_;rintro e w' ⟨rfl,rfl⟩)|(go_at_call 283;refine (unhide HQ2 _).mono ?_;rintro e w' ⟨rfl,m,rfl⟩))
  go_ret
  exact ⟨ret_bool HF.out.symm,by first|exact ⟨0,rfl⟩|exact ⟨_,rfl⟩|exact ⟨_,World.drewN_drewN _ _ _⟩⟩
 ·rw [hk] at hq2
  have HQ2:=hide hq2
  clear hq2
  have hb:=inB_iff'.1 (show inB k 1 ((s.size:Int) - 1)=true by unfold cornerAny at hk;exact (Bool.and_eq_true_iff.1 hk).1)
  obtain ⟨L,rfl⟩:=Int.eq_ofNat_of_zero_le (show 0≤k by omega)
  obtain ⟨K,hKL⟩:∃ K,L=K+1:=⟨L - 1,by omega⟩
  have hL:L<s.size:=by omega
  have hK:K<s.size:=by omega
  have e1:((L:Int) - 1)=(K:Int):=by omega
  have w1:IntKind.i64.wrap ((L:Int) - 1)=(K:Int):=by rw [e1,IntWalk.i64_in _ (by omega)]
  have HF:Hid (cornerB 100 s L=(s[K]==(100:UInt8))):=by unfold Hid cornerB;rw [hk,hi,e1,chr_get s K hK];rfl
  have HKL:=Lib.hid hKL
  clear hk hb hKL e1
  go_enter Tryz.func282,Tryz.ntmps282
  go_wp2_with (first|(go_at_call 168;refine (unhide HQ1 _).mono ?_;rintro e w' ⟨rfl,rfl⟩)|(go_at_call 283;refine (unhide HQ2 _).mono ?_;rintro e w' ⟨rfl,m,rfl⟩))
  go_ret
  exact ⟨ret_bool (by rw [HF.out];exact eq_bytes s[K] 100),by first|exact ⟨0,rfl⟩|exact ⟨_,rfl⟩|exact ⟨_,World.drewN_drewN _ _ _⟩⟩
theorem s_l03Corner (s:ByteArray) (k:Int) (c:UInt8) (w:World) (hs:s.size≤16777216) :
  Calls Tryz.prog 277 #[.string s,.int .i64 k,.int .u8 c.toNat] w fun e w'=>e=.returned (.bool (cornerB c s k))∧∃ m,w'=w.drewN m:=by
 have hw1:IntKind.i64.wrap ((s.size:Int) - 1)=(s.size:Int) - 1:=by rw [IntWalk.i64_in _ (by omega)]
 have HW:=hide hw1
 clear hw1
 have hq1:∀ W:World,Calls Tryz.prog 204 #[.string s] W fun e w'=>e=.returned (.bool (isStrip s.data.toList))∧W=w':=fun W=>s_IsStrip s W (by unfold maxLen;omega)
 have hq2:∀ (W:World) (v:Int),v=(s.size:Int) - 1→Calls Tryz.prog 95 #[.int .i64 k,.int .i64 1,.int .i64 v] W fun e w'=>e=.returned (.bool (inB k 1 ((s.size:Int) - 1)))∧W=w':=fun W v hv=>by rw [hv];exact s_l01In _ _ _ _
 cases hi:isStrip s.data.toList
 ·have HF:Hid (cornerB c s k=false):=by unfold Hid cornerB;rw [hi];rfl
  rw [hi] at hq1
  have HQ1:=hide hq1
  clear hq1 hq2
  go_enter Tryz.func277,Tryz.ntmps277
  go_wp2
  go_quiet ((first|(go_at_call 204;first|exact quiet_left (unhide HQ1 _)|exact quiet_add_left (unhide HQ1 _))))
  go_wp2
  go_ret
  exact ⟨ret_bool HF.out.symm,by first|exact ⟨0,rfl⟩|exact ⟨_,rfl⟩|exact ⟨_,World.drewN_drewN _ _ _⟩⟩
 rw [hi] at hq1
 have HQ1:=hide hq1
 clear hq1
 cases hk:inB k 1 ((s.size:Int) - 1)
 ·have HF:Hid (cornerB c s k=false):=by unfold Hid cornerB cornerAny;rw [hk,hi];rfl
  rw [hk] at hq2
  have HQ2:=hide hq2
  clear hq2
  go_enter Tryz.func277,Tryz.ntmps277
  go_wp2
  go_quiet ((first|(go_at_call 204;first|exact quiet_left (unhide HQ1 _)|exact quiet_add_left (unhide HQ1 _))|(go_at_call 95;first|exact quiet_left (unhide HQ2 _ _ (by first|with_reducible rfl|exact unhide HW))|exact quiet_add_left (unhide HQ2 _ _ (by first|with_reducible rfl|exact unhide HW)))))
  go_wp2
  go_ret
  exact ⟨ret_bool HF.out.symm,by first|exact ⟨0,rfl⟩|exact ⟨_,rfl⟩|exact ⟨_,World.drewN_drewN _ _ _⟩⟩
 ·rw [hk] at hq2
  have HQ2:=hide hq2
  clear hq2
  have hb:=inB_iff'.1 hk
  obtain ⟨L,rfl⟩:=Int.eq_ofNat_of_zero_le (show 0≤k by omega)
  obtain ⟨K,hKL⟩:∃ K,L=K+1:=⟨L - 1,by omega⟩
  have hL:L<s.size:=by omega
  have hK:K<s.size:=by omega
  have e1:((L:Int) - 1)=(K:Int):=by omega
  have w1:IntKind.i64.wrap ((L:Int) - 1)=(K:Int):=by rw [e1,IntWalk.i64_in _ (by omega)]
  have HF:Hid (cornerB c s L=((s[K] != s[L])&&(s[K]==c))):=by unfold Hid cornerB cornerAny;rw [hk,hi,e1,chr_get s K hK,chr_get s L hL];rfl
  have hne:=neq_bytes s[L] s[K]
  have heq:=eq_bytes s[K] c
  have HKL:=Lib.hid hKL
  clear hk hb hKL e1
  cases h1:((s[L].toNat:Int)==(s[K].toNat:Int)) <;>
  ·rw [h1] at hne
   have HN:=hide hne
   have HE:=hide heq
   have hd:((s[L].toNat:Int) != (s[K].toNat:Int))=!((s[L].toNat:Int)==(s[K].toNat:Int)):=rfl
   rw [h1] at hd
   have hd2:=hd
   simp only [Bool.not_true,Bool.not_false] at hd2
   clear hne heq hd
   go_enter Tryz.func277,Tryz.ntmps277
   go_wp2
   go_quiet ((first|(go_at_call 204;first|exact quiet_left (unhide HQ1 _)|exact quiet_add_left (unhide HQ1 _))|(go_at_call 95;first|exact quiet_left (unhide HQ2 _ _ (by first|with_reducible rfl|exact unhide HW))|exact quiet_add_left (unhide HQ2 _ _ (by first|with_reducible rfl|exact unhide HW)))))
   go_wp2
   go_ret
   exact ⟨ret_bool (by rw [HF.out,← unhide HE,bne_comm,← unhide HN];simp),by first|exact ⟨0,rfl⟩|exact ⟨_,rfl⟩|exact ⟨_,World.drewN_drewN _ _ _⟩⟩
theorem s_IsMountain (s:ByteArray) (k:Int) (w:World) (hs:s.size≤16777216) :
  Calls Tryz.prog 247 #[.string s,.int .i64 k] w fun e w'=>e=.returned (.bool (cornerB 102 s k))∧∃ m,w'=w.drewN m:=by
 go_enter Tryz.func247,Tryz.ntmps247
 go_wp2_with (go_at_call 277;refine (s_l03Corner s k 102 _ hs).mono ?_;rintro e w' ⟨rfl,m,rfl⟩)
 go_ret
 exact ⟨rfl,by first|exact ⟨0,rfl⟩|exact ⟨_,rfl⟩|exact ⟨_,World.drewN_drewN _ _ _⟩⟩
theorem s_IsValley (s:ByteArray) (k:Int) (w:World) (hs:s.size≤16777216) :
  Calls Tryz.prog 276 #[.string s,.int .i64 k] w fun e w'=>e=.returned (.bool (cornerB 100 s k))∧∃ m,w'=w.drewN m:=by
 go_enter Tryz.func276,Tryz.ntmps276
 go_wp2_with (go_at_call 277;refine (s_l03Corner s k 100 _ hs).mono ?_;rintro e w' ⟨rfl,m,rfl⟩)
 go_ret
 exact ⟨rfl,by first|exact ⟨0,rfl⟩|exact ⟨_,rfl⟩|exact ⟨_,World.drewN_drewN _ _ _⟩⟩
theorem i_CanRaise (s:ByteArray) (k:Int) (w:World) (hs:s.size≤16777216) :
  Calls Tryz.prog 268 #[.string s,.int .i64 k] w fun e w'=>e=.returned (.bool (cornerB 100 s k))∧∃ m,w'=w.drewN m:=by
 go_enter Tryz.func268,Tryz.ntmps268
 go_wp2_with (go_at_call 282;refine (i_IsValley s k _ hs).mono ?_;rintro e w' ⟨rfl,m,rfl⟩)
 go_ret
 exact ⟨rfl,by first|exact ⟨0,rfl⟩|exact ⟨_,rfl⟩|exact ⟨_,World.drewN_drewN _ _ _⟩⟩
theorem swap_parts (s:ByteArray) (L K:Nat) (hKL:L=K+1) (hL:L<s.size) :
  s.extract 0 K++s.extract L (L+1)++s.extract K L++s.extract (L+1) s.size=swapB s (L:Int):=by
 apply ba_ext
 subst hKL
 unfold swapB swapL
 have h:List.take (s.size - (K+1+1)) (List.drop (K+1+1) s.data.toList)=List.drop (K+1+1) s.data.toList:=List.take_of_length_le (by rw [List.length_drop];simp)
 simp only [Int.toNat_natCast,ByteArray.data_append,Array.toList_append,ByteArray.data_extract,Array.toList_extract,List.extract_eq_take_drop]
 simp [h]
theorem i_turnedAt (s:ByteArray) (L K:Nat) (w:World) (hs:s.size≤16777216) (hKL:L=K+1) (hL:L<s.size) :
  Calls Tryz.prog 269 #[.string s,.int .i64 L] w fun e w'=>e=.returned (.string (swapB s (L:Int)))∧∃ m,w'=w.drewN m:=by
 have HP:=Lib.hid (swap_parts s L K hKL hL)
 have hK:K<s.size:=by omega
 have w1:IntKind.i64.wrap ((L:Int) - 1)=(K:Int):=by rw [show (L:Int) - 1=(K:Int) by omega,IntWalk.i64_in _ (by omega)]
 have w2:IntKind.i64.wrap ((L:Int)+1)=(L:Int)+1:=by rw [IntWalk.i64_in _ (by omega)]
 have hle:K≤L:=by omega
 have hle2:L+1≤s.size:=hL
 have HKL:=Lib.hid hKL
 clear hKL
 go_enter Tryz.func269,Tryz.ntmps269
 go_wp2
 go_quiet (fail)
 go_wp2
 go_ret
 exact ⟨ret_str (by rw [← HP.out]),by first|exact ⟨0,rfl⟩|exact ⟨_,rfl⟩|exact ⟨_,World.drewN_drewN _ _ _⟩⟩
theorem s_l10Swap (s:ByteArray) (L K:Nat) (w:World) (hs:s.size≤16777216) (hKL:L=K+1) (hL:L<s.size) :
  Calls Tryz.prog 245 #[.string s,.int .i64 L] w fun e w'=>e=.returned (.string (swapB s (L:Int)))∧∃ m,w'=w.drewN m:=by
 have HP:=Lib.hid (swap_parts s L K hKL hL)
 have hK:K<s.size:=by omega
 have w1:IntKind.i64.wrap ((L:Int) - 1)=(K:Int):=by rw [show (L:Int) - 1=(K:Int) by omega,IntWalk.i64_in _ (by omega)]
 have w2:IntKind.i64.wrap ((L:Int)+1)=(L:Int)+1:=by rw [IntWalk.i64_in _ (by omega)]
 have hle:K≤L:=by omega
 have hle2:L+1≤s.size:=hL
 have HKL:=Lib.hid hKL
 clear hKL
 go_enter Tryz.func245,Tryz.ntmps245
 go_wp2
 go_quiet (fail)
 go_wp2
 go_ret
 exact ⟨ret_str (by rw [← HP.out]),by first|exact ⟨0,rfl⟩|exact ⟨_,rfl⟩|exact ⟨_,World.drewN_drewN _ _ _⟩⟩
theorem cornerB_pos {c:UInt8} {s:ByteArray} {k:Int} (h:cornerB c s k=true):∃ L K:Nat,k=(L:Int)∧L=K+1∧L<s.size:=by
 unfold cornerB cornerAny at h
 simp only [Bool.and_eq_true] at h
 have hb:=inB_iff'.1 h.1.2.1
 exact ⟨k.toNat,k.toNat - 1,by omega,by omega,by omega⟩
def turnRes (c:UInt8) (s:ByteArray) (k:Int):ByteArray:=if cornerB c s k=true then swapB s k else s
theorem i_RaiseAt (s:ByteArray) (k:Int) (w:World) (hs:s.size≤16777216) :
  Calls Tryz.prog 236 #[.string s,.int .i64 k] w fun e w'=>e=.returned (.tuple #[.string (turnRes 100 s k),.bool (cornerB 100 s k)])∧∃ m,w'=w.drewN m:=by
 have hq:∀ W:World,Calls Tryz.prog 268 #[.string s,.int .i64 k] W fun e w'=>e=.returned (.bool (cornerB 100 s k))∧∃ m,w'=W.drewN m:=fun W=>i_CanRaise s k W hs
 cases hc:cornerB 100 s k
 ·have HR:Hid (turnRes 100 s k=s):=by unfold Hid turnRes;rw [if_neg (by rw [hc];decide)]
  rw [hc] at hq
  have HQ:=hide hq
  clear hq hc
  go_enter Tryz.func236,Tryz.ntmps236
  go_wp2_with (go_at_call 268;refine (unhide HQ _).mono ?_;rintro e w' ⟨rfl,m,rfl⟩)
  refine bodyPost_ret (v:=.tuple #[.string s,.bool false]) (by simp [results,Tryz.results236,go_sem, *]) rfl ?_
  rw [HR.out]
  exact ⟨rfl,by first|exact ⟨0,rfl⟩|exact ⟨_,rfl⟩|exact ⟨_,World.drewN_drewN _ _ _⟩⟩
 ·have HR:Hid (turnRes 100 s k=swapB s k):=by unfold Hid turnRes;rw [if_pos hc]
  rw [hc] at hq
  have HQ:=hide hq
  obtain ⟨L,K,rfl,hKL,hL⟩:=cornerB_pos hc
  clear hq hc
  have HKL:=hide hKL
  clear hKL
  go_enter Tryz.func236,Tryz.ntmps236
  go_wp2_with (first|(go_at_call 268;refine (unhide HQ _).mono ?_;rintro e w' ⟨rfl,m,rfl⟩)|(go_at_call 269;refine (i_turnedAt s L K _ hs (unhide HKL) hL).mono ?_;rintro e w' ⟨rfl,m,rfl⟩))
  refine bodyPost_ret (v:=.tuple #[.string (swapB s L),.bool true]) (by simp [results,Tryz.results236,go_sem, *]) rfl ?_
  rw [HR.out]
  exact ⟨rfl,by first|exact ⟨0,rfl⟩|exact ⟨_,rfl⟩|exact ⟨_,World.drewN_drewN _ _ _⟩⟩
theorem i_LowerAt (s:ByteArray) (k:Int) (w:World) (hs:s.size≤16777216) :
  Calls Tryz.prog 237 #[.string s,.int .i64 k] w fun e w'=>e=.returned (.tuple #[.string (turnRes 102 s k),.bool (cornerB 102 s k)])∧∃ m,w'=w.drewN m:=by
 have hq:∀ W:World,Calls Tryz.prog 270 #[.string s,.int .i64 k] W fun e w'=>e=.returned (.bool (cornerB 102 s k))∧∃ m,w'=W.drewN m:=fun W=>i_IsMountain s k W hs
 cases hc:cornerB 102 s k
 ·have HR:Hid (turnRes 102 s k=s):=by unfold Hid turnRes;rw [if_neg (by rw [hc];decide)]
  rw [hc] at hq
  have HQ:=hide hq
  clear hq hc
  go_enter Tryz.func237,Tryz.ntmps237
  go_wp2_with (go_at_call 270;refine (unhide HQ _).mono ?_;rintro e w' ⟨rfl,m,rfl⟩)
  refine bodyPost_ret (v:=.tuple #[.string s,.bool false]) (by simp [results,Tryz.results237,go_sem, *]) rfl ?_
  rw [HR.out]
  exact ⟨rfl,by first|exact ⟨0,rfl⟩|exact ⟨_,rfl⟩|exact ⟨_,World.drewN_drewN _ _ _⟩⟩
 ·have HR:Hid (turnRes 102 s k=swapB s k):=by unfold Hid turnRes;rw [if_pos hc]
  rw [hc] at hq
  have HQ:=hide hq
  obtain ⟨L,K,rfl,hKL,hL⟩:=cornerB_pos hc
  clear hq hc
  have HKL:=hide hKL
  clear hKL
  go_enter Tryz.func237,Tryz.ntmps237
  go_wp2_with (first|(go_at_call 270;refine (unhide HQ _).mono ?_;rintro e w' ⟨rfl,m,rfl⟩)|(go_at_call 269;refine (i_turnedAt s L K _ hs (unhide HKL) hL).mono ?_;rintro e w' ⟨rfl,m,rfl⟩))
  refine bodyPost_ret (v:=.tuple #[.string (swapB s L),.bool true]) (by simp [results,Tryz.results237,go_sem, *]) rfl ?_
  rw [HR.out]
  exact ⟨rfl,by first|exact ⟨0,rfl⟩|exact ⟨_,rfl⟩|exact ⟨_,World.drewN_drewN _ _ _⟩⟩
def boxOk (d f:Int) (ss:List ByteArray) (n:Nat) (F L:Int):Bool:=(cardOk d f ss&&inB F 0 L)&&decide (L<(n:Int))
theorem boxOk_spec (d f:Int) (ss:List ByteArray) (n:Nat) (F L:Int):boxOk d f ss n F L=((cardOk d f ss&&inB L 0 ((n:Int) - 1))&&inB F 0 L):=by
 unfold boxOk
 cases cardOk d f ss
 ·rfl
 ·have h:(inB F 0 L&&decide (L<(n:Int)))=(inB L 0 ((n:Int) - 1)&&inB F 0 L):=by
   rw [Bool.eq_iff_iff]
   simp only [Bool.and_eq_true,inB_iff,decide_eq_true_eq]
   omega
  simpa using h
def flips (at_:Int) (ss:List ByteArray) (F j:Nat):List ByteArray:=ss.mapIdx fun i s=>if F≤i∧i<F+j then swapB s at_ else s
def allC (c:UInt8) (at_:Int) (ss:List ByteArray) (F j:Nat):Bool:=((ss.drop F).take j).all fun s=>cornerB c s at_
theorem flips_len (at_:Int) (ss:List ByteArray) (F j:Nat):(flips at_ ss F j).length=ss.length:=by simp [flips]
theorem flips_zero (at_:Int) (ss:List ByteArray) (F:Nat):flips at_ ss F 0=ss:=by
 apply List.ext_getElem (by simp [flips])
 intro i h1 h2
 simp [flips];intro h3 h4;omega
theorem flips_step (at_:Int) (ss:List ByteArray) (F j:Nat) (h:F+j<ss.length):(flips at_ ss F j).set (F+j) (swapB ss[F+j] at_)=flips at_ ss F (j+1):=by
 apply List.ext_getElem (by simp [flips])
 intro i h1 h2
 rw [List.getElem_set]
 simp only [flips,List.getElem_mapIdx]
 by_cases hi:F+j=i
 ·subst hi
  simp
 ·rw [if_neg hi]
  by_cases h3:F≤i∧i<F+j
  ·rw [if_pos h3,if_pos (by omega)]
  ·rw [if_neg h3,if_neg (by omega)]
theorem allC_zero (c:UInt8) (at_:Int) (ss:List ByteArray) (F:Nat):allC c at_ ss F 0=true:=by simp [allC]
theorem allC_step (c:UInt8) (at_:Int) (ss:List ByteArray) (F j:Nat) (h:F+j<ss.length):allC c at_ ss F (j+1)=(allC c at_ ss F j&&cornerB c ss[F+j] at_):=by
 unfold allC
 rw [List.take_succ_eq_append_getElem (by rw [List.length_drop];omega),List.all_append]
 simp
theorem allC_stop {c:UInt8} {at_:Int} {ss:List ByteArray} {F j m:Nat} (h:F+j<ss.length) (hj:j<m) (hc:cornerB c ss[F+j] at_=false):allC c at_ ss F m=false:=by
 unfold allC
 rw [List.all_eq_false]
 refine ⟨ss[F+j],?_,by simp [hc]⟩
 rw [List.mem_take_iff_getElem]
 exact ⟨j,by rw [List.length_drop];omega,by simp⟩
theorem swapB_size {s:ByteArray} {at_:Int} (h:s.size≤16777216) {c:UInt8} (hc:cornerB c s at_=true):(swapB s at_).size=s.size:=by
 obtain ⟨L,K,rfl,hKL,hL⟩:=cornerB_pos hc
 subst hKL
 have h1:s.data.toList.length=s.size:=by simp
 show (swapL s.data.toList _).toArray.size=s.size
 simp only [List.size_toArray,swapL,List.length_append,List.length_take,List.length_drop,Int.toNat_natCast,h1]
 omega
def boxRes (c:UInt8) (d f:Int) (ss:List ByteArray) (F L at_:Int):List ByteArray×Bool :=
 if boxOk d f ss ss.length F L=true∧allC c at_ ss F.toNat (L.toNat+1 - F.toNat)=true then (flips at_ ss F.toNat (L.toNat+1 - F.toNat),true) else (ss,false)
theorem i_hasBox (d f:Int) (B:Nat) (A:Option Addr) (n c:Nat) (ss:List ByteArray) (F L T:Int) (w:World) (hS:Strs w B A n ss) (hB:B≤w.heap.size) :
  Calls Tryz.prog 267 #[.agg #[.int .i64 d,.int .i64 f,.slice A n c],.agg #[.int .i64 F,.int .i64 L,.int .i64 T]] w fun e w'=>e=.returned (.bool (boxOk d f ss n F L))∧Below w.heap.size w w':=by
 have hn:=hS.nb
 have hS2:=(hS.alloc hB (.cells #[.int .i64 d,.int .i64 f,.slice A n c] 26)).alloc (by simp;omega) (.cells #[.int .i64 F,.int .i64 L,.int .i64 T] 165)
 unfold boxOk
 cases hc:cardOk d f ss <;> cases hk:inB F 0 L <;>
 ·go_enter Tryz.func267,Tryz.ntmps267
  go_wp2_with (first|(go_at_call 70;refine (i_CardOk _ _ _ _ _ ss _ (hS2.more (by simp;omega))).mono ?_;rintro e w1 ⟨rfl,hb1⟩;obtain ⟨hcb,hfb⟩:=bcell hb1;obtain ⟨qaa,qba,qca,qda⟩:=zs2 (show w.heap.size+1<w1.heap.size by have hzz:=hb1.size;(try simp at hzz);omega))|(go_at_call 71;refine (i_within _ _ _ _).mono ?_;rintro e w' ⟨rfl,rfl⟩))
  go_ret
  exact ⟨by simp,bel⟩
theorem s_l11Range (d f:Int) (B:Nat) (A:Option Addr) (n c:Nat) (ss:List ByteArray) (F L T:Int) (w:World) (hS:Strs w B A n ss) (hB:B≤w.heap.size) :
  Calls Tryz.prog 246 #[.agg #[.int .i64 d,.int .i64 f,.slice A n c],.agg #[.int .i64 F,.int .i64 L,.int .i64 T]] w fun e w'=>e=.returned (.bool (boxOk d f ss n F L))∧Below w.heap.size w w':=by
 have hn:=hS.nb
 have hS2:=(hS.alloc hB (.cells #[.int .i64 d,.int .i64 f,.slice A n c] 26)).alloc (by simp;omega) (.cells #[.int .i64 F,.int .i64 L,.int .i64 T] 165)
 rw [boxOk_spec]
 cases hc:cardOk d f ss <;> cases hk:inB L 0 ((n:Int) - 1) <;>
 ·go_enter Tryz.func246,Tryz.ntmps246
  go_wp2_with (first|(go_at_call 97;refine (s_CardOk _ _ _ _ _ ss _ (hS2.more (by simp;omega))).mono ?_;rintro e w1 ⟨rfl,hb1⟩;obtain ⟨hcb,hfb⟩:=bcell hb1;obtain ⟨qaa,qba,qca,qda⟩:=zs2 (show w.heap.size+1<w1.heap.size by have hzz:=hb1.size;(try simp at hzz);omega))|(go_at_call 95;refine (s_l01In _ _ _ _).mono ?_;rintro e w' ⟨rfl,rfl⟩))
  go_ret
  exact ⟨by simp,bel⟩
theorem flips_stepK (at_:Int) (ss:List ByteArray) (F K:Nat) (hF:F≤K) (h:K<ss.length):(flips at_ ss F (K - F)).set K (swapB ss[K] at_)=flips at_ ss F (K+1 - F):=by
 obtain ⟨j,rfl⟩:∃ j,K=F+j:=⟨K - F,by omega⟩
 rw [show F+j - F=j by omega,show F+j+1 - F=j+1 by omega]
 exact flips_step at_ ss F j h
theorem allC_stepK {c:UInt8} {at_:Int} {ss:List ByteArray} {F K:Nat} (hF:F≤K) (h:K<ss.length) (ha:allC c at_ ss F (K - F)=true) (hc:cornerB c ss[K] at_=true):allC c at_ ss F (K+1 - F)=true:=by
 obtain ⟨j,rfl⟩:∃ j,K=F+j:=⟨K - F,by omega⟩
 rw [show F+j - F=j by omega] at ha
 rw [show F+j+1 - F=j+1 by omega,allC_step c at_ ss F j h,ha,hc];rfl
theorem allC_stopK {c:UInt8} {at_:Int} {ss:List ByteArray} {F K m:Nat} (hF:F≤K) (h:K<ss.length) (hm:K<m) (hc:cornerB c ss[K] at_=false):allC c at_ ss F (m - F)=false:=by
 obtain ⟨j,rfl⟩:∃ j,K=F+j:=⟨K - F,by omega⟩
 exact allC_stop h (by omega) hc
theorem boxRes_no {c:UInt8} {d f:Int} {ss:List ByteArray} {F L at_:Int} (h:boxOk d f ss ss.length F L=false):boxRes c d f ss F L at_=(ss,false):=by
 unfold boxRes;rw [if_neg (by rw [h];simp)]
theorem boxRes_stop {c:UInt8} {d f:Int} {ss:List ByteArray} {F L:Nat} {at_:Int} (h:allC c at_ ss F (L+1 - F)=false):boxRes c d f ss F L at_=(ss,false):=by
 unfold boxRes;simp only [Int.toNat_natCast];rw [if_neg (by rw [h];simp)]
theorem boxRes_yes {c:UInt8} {d f:Int} {ss:List ByteArray} {F L:Nat} {at_:Int} (h0:boxOk d f ss ss.length F L=true) (h:allC c at_ ss F (L+1 - F)=true):boxRes c d f ss F L at_=(flips at_ ss F (L+1 - F),true):=by
 unfold boxRes;simp only [Int.toNat_natCast];rw [if_pos ⟨h0,h⟩]
theorem boxOk_iff {d f:Int} {ss:List ByteArray} {n:Nat} {F L:Int} (h:boxOk d f ss n F L=true):0≤F∧F≤L∧L<(n:Int):=by
 unfold boxOk at h
 simp only [Bool.and_eq_true,inB_iff,decide_eq_true_eq] at h
 omega
theorem Strs.grown {w w':World} {B n g:Nat} {A:Option Addr} {ss:List ByteArray} (h:Strs w B A n ss) (hg:w.grownBy w' (some g)) (hB:B≤g) (hw:B≤w.heap.size):Strs w' B A n ss :=
 h.keep fun p hp=>World.cell?_of_block (hg.block p.block (by omega) (by intro e;injection e;omega))
theorem i_boxed_LowerAt (d f:Int) (B:Nat) (A:Option Addr) (n c:Nat) (ss:List ByteArray) (F L T:Int) (w:World) (hS:Strs w B A n ss) (hB:B≤w.heap.size) :
  Calls Tryz.prog 235 #[.agg #[.int .i64 d,.int .i64 f,.slice A n c],.agg #[.int .i64 F,.int .i64 L,.int .i64 T],.func (.func 237) #[] #[]] w (FreshCardB w.heap.size d f (boxRes 102 d f ss F L T).1 (boxRes 102 d f ss F L T).2 w):=by
 have hn:=hS.nb
 have hl:=hS.len
 have hS2:=((hS.alloc hB (.cells #[.int .i64 d,.int .i64 f,.slice A n c] 26)).alloc (by simp;omega) (.cells #[.int .i64 F,.int .i64 L,.int .i64 T] 165)).alloc (by simp;omega) (.cells #[.int .i64 0,.int .i64 0,.slice none 0 0] 26)
 have hsr:=hS2.rd
 have HL:=Lib.hid hl
 cases hh:boxOk d f ss n F L
 ·have HP:=Lib.hid (boxRes_no (c:=102) (at_:=T) (show boxOk d f ss ss.length F L=false by rw [hl];exact hh))
  clear hl
  go_enter Tryz.func235,Tryz.ntmps235
  go_wp2_with (first|(go_at_call 267;refine (i_hasBox _ _ B _ _ _ ss _ _ _ _ hS2 (by simp;omega)).mono ?_;rw [hh];rintro e w1 ⟨rfl,hb1⟩;obtain ⟨hcb,hfb⟩:=bcell hb1;obtain ⟨qaa,qba,qca,qda,qea,qfa⟩:=zs3 (show w.heap.size+1+1<w1.heap.size by have hzz:=hb1.size;(try simp at hzz);omega);have hS3:=hS2.below (hb1.mono (by simp;omega)))|(go_at_call 122;refine (i_copied _ _ B _ _ _ ss _ hS3 (by omega)).mono ?_;rintro e w2 ⟨A1,c1,rfl,ho2,hb2⟩;obtain ⟨hcb2,hfb2⟩:=bcell hb2;obtain ⟨qga,qha,qia,qja,qka,qla⟩:=zs3 (show w.heap.size+1+1<w2.heap.size by have hzz:=hb2.size;(try simp at hzz);omega)))
  refine bodyPost_ret (v:=.tuple #[.agg #[.int .i64 d,.int .i64 f,.slice A1 ss.length c1],.bool false]) (by simp [results,Tryz.results235,go_sem, *]) rfl ?_
  rw [HP.out]
  exact ⟨A1,c1,rfl,own_up ho2 upr (by first|exact Nat.le_refl _|(simp;done)|omega|(simp;omega)|exact (‹_∧_∧Below _ _ _›).2.2.size),bel⟩
 ·obtain ⟨hF0,hFL,hLn⟩:=boxOk_iff hh
  obtain ⟨F,rfl⟩:=Int.eq_ofNat_of_zero_le hF0
  obtain ⟨L,rfl⟩:=Int.eq_ofNat_of_zero_le (show 0≤L by omega)
  have hFL':F≤L:=by omega
  have hLn':L<n:=by omega
  have HH:=Lib.hid (show boxOk d f ss ss.length F L=true by rw [hl];exact hh)
  clear hl hF0 hFL hLn hsr
  go_enter Tryz.func235,Tryz.ntmps235
  go_wp2_with (first|(go_at_call 267;refine (i_hasBox _ _ B _ _ _ ss _ _ _ _ hS2 (by simp;omega)).mono ?_;rw [hh];rintro e w1 ⟨rfl,hb1⟩;obtain ⟨hcb,hfb⟩:=bcell hb1;obtain ⟨qaa,qba,qca,qda,qea,qfa⟩:=zs3 (show w.heap.size+1+1<w1.heap.size by have hzz:=hb1.size;(try simp at hzz);omega);have hS3:=hS2.below (hb1.mono (by simp;omega)))|(go_at_call 122;refine (i_copied _ _ B _ _ _ ss _ hS3 (by omega)).mono ?_;rintro e w2 ⟨A1,c1,rfl,ho2,hb2⟩;obtain ⟨hcb2,hfb2⟩:=bcell hb2;obtain ⟨qga,qha,qia,qja,qka,qla⟩:=zs3 (show w.heap.size+1+1<w2.heap.size by have hzz:=hb2.size;(try simp at hzz);omega);(have hnl:0<ss.length:=(by have:=HL.out;omega));obtain ⟨g,cap,hv,hbg,hglt⟩:=ho2.form hnl;(have hA:A1=some ⟨g,0,none⟩:=(by injection hv));subst hA;clear hv;have hS4:=hS3.below (hb2.mono (by omega))))
  have ho3:=ho2.alloc (.cells #[.int .i64 d,.int .i64 f,.slice (some ⟨g,0,none⟩) ss.length c1] 26)
  have hbA:Below w2.heap.size w2 (w2.alloc (.cells #[.int .i64 d,.int .i64 f,.slice (some ⟨g,0,none⟩) ss.length c1] 26)):=bel
  have hko:(w2.alloc (.cells #[.int .i64 d,.int .i64 f,.slice (some ⟨g,0,none⟩) ss.length c1] 26)).heap[w2.heap.size]?=some (.cells #[.int .i64 d,.int .i64 f,.slice (some ⟨g,0,none⟩) ss.length c1] 26):=blk_new w2 (.cells #[.int .i64 d,.int .i64 f,.slice (some ⟨g,0,none⟩) ss.length c1] 26)
  have hb3:Below w.heap.size w (w2.alloc (.cells #[.int .i64 d,.int .i64 f,.slice (some ⟨g,0,none⟩) ss.length c1] 26)):=bel
  have hS5:=hS4.below (hbA.mono (by omega))
  have hwg:w.heap.size≤g:=by omega
  have hBg:B≤g:=by omega
  have qya:w.heap.size+3≤g:=(by have hzz:=hbg;(try simp at hzz);omega);have qma:g≠w.heap.size:=(by have hzz:=hbg;(try simp at hzz);omega);have qpa:=Ne.symm qma;have qna:g≠w.heap.size+1:=(by have hzz:=hbg;(try simp at hzz);omega);have qqa:=Ne.symm qna;have qoa:g≠w.heap.size+1+1:=(by have hzz:=hbg;(try simp at hzz);omega);have qra:=Ne.symm qoa
  go_loopw [9,10,11] (fun kk _ _ wr=>∃ K:Nat,F≤K∧K≤L+1∧kk=.int .i64 K∧Hid (allC 102 T ss F (K - F)=true)∧wr.ownsRow w1.heap.size 9 1 (.slice (some ⟨g,0,none⟩) ss.length c1) ss.length ((flips T ss F (K - F)).map Value.string)∧(w2.alloc (.cells #[.int .i64 d,.int .i64 f,.slice (some ⟨g,0,none⟩) ss.length c1] 26)).grownBy wr (some g)) (fun kk _ _ _=>L+1 - (intOf kk).toNat)
  case atStart=>exact ⟨F,Nat.le_refl _,by omega,rfl,by rw [Nat.sub_self];exact allC_zero _ _ _ _,by rw [Nat.sub_self,flips_zero];exact ho3,World.grownBy.refl _ _⟩
  case round =>
   obtain ⟨K,hFK,hKL,rfl,HA,hown,hg⟩:=hrel
   have hbr:Below w.heap.size w wr:=only_below_B hb3 hg hwg
   have hSr:=hS5.grown hg hBg (by simp;omega)
   have hzr:w2.heap.size+1≤wr.heap.size:=by have:=hg.size;simpa using this
   obtain ⟨hx0,hx1,hx2,hxl⟩:=blk3 ((hg.block w2.heap.size (by simp) (by intro e;injection e;omega)).trans hko)
   have hcb3:∀ b o,b<w2.heap.size→b≠g→wr.cell? ⟨b,o,none⟩=w2.cell? ⟨b,o,none⟩:=fun b o h hne=>((gcell hg).1 b o (by simp;omega) hne).trans ((bcell hbA).1 b o h)
   have hfb3:∀ b o,b<w2.heap.size→b≠g→wr.frozen? ⟨b,o,none⟩=w2.frozen? ⟨b,o,none⟩:=fun b o h hne=>((gcell hg).2 b o (by simp;omega) hne).trans ((bcell hbA).2 b o h)
   have hz0:w.heap.size<wr.heap.size:=by omega
   have hz1:w.heap.size+1<wr.heap.size:=by omega
   have hz2:w.heap.size+1+1<wr.heap.size:=by omega
   by_cases hlt:K≤L
   ·obtain ⟨hKs,ad,hAad,hab,hx,hsz⟩:=hSr.at_ (k:=K) (by omega)
    subst hAad
    have hKn:K<n:=by omega
    have hKl:K<ss.length:=hKs
    have hq:∀ W:World,Calls Tryz.prog 237 #[.string ss[K],.int .i64 T] W fun e w'=>e=.returned (.tuple #[.string (turnRes 102 ss[K] T),.bool (cornerB 102 ss[K] T)])∧∃ m,w'=W.drewN m:=fun W=>i_LowerAt _ _ W hsz
    cases hcc:cornerB 102 ss[K] T
    ·rw [hcc] at hq
     have HQ:=hide hq
     clear hq
     have HP:=Lib.hid (boxRes_stop (d:=d) (f:=f) (L:=L) (allC_stopK (m:=L+1) hFK hKs (by omega) hcc))
     clear hcc
     go_wp2
     go_quiet ((go_at_call 237;first|exact quiet_ex (unhide HQ _)|exact quiet_add (unhide HQ _)))
     go_wp2_with (go_at_call 122;refine (i_copied _ _ B _ _ _ ss _ (hSr.drewN _) (by simp;omega)).mono ?_;rintro e w4 ⟨A4,c4,rfl,ho4,hb4'⟩;(have hb4:Below wr.heap.size wr w4:=⟨hb4'.os,hb4'.tape,hb4'.output,hb4'.size,hb4'.block⟩);clear hb4';obtain ⟨hcb4,hfb4⟩:=bcell hb4;obtain ⟨qsa,qta,qua,qva,qwa,qxa⟩:=zs3 (show w.heap.size+1+1<w4.heap.size by have hzz:=hb4.size;(try simp at hzz);omega))
     refine bodyPost_ret (v:=.tuple #[.agg #[.int .i64 d,.int .i64 f,.slice A4 ss.length c4],.bool false]) (by simp [results,Tryz.results235,go_sem, *]) rfl ?_
     rw [HP.out]
     exact ⟨A4,c4,rfl,own_up ho4 upr (by first|exact Nat.le_refl _|(simp;done)|omega|(simp;omega)|exact (‹_∧_∧Below _ _ _›).2.2.size),bel⟩
    ·rw [hcc,show turnRes 102 ss[K] T=swapB ss[K] T by unfold turnRes;rw [if_pos hcc]] at hq
     have HQ:=hide hq
     clear hq
     have HA2:=Lib.hid (allC_stepK hFK hKs HA.out hcc)
     have HFS:=Lib.hid (flips_stepK T ss F K hFK hKs)
     clear hcc
     obtain ⟨u1,hc1⟩:=own_cell hown (j:=K) hKl
     have hf1:=hown.frozenAt K
     go_wp2
     go_quiet ((go_at_call 237;first|exact quiet_ex (unhide HQ _)|exact quiet_add (unhide HQ _)))
     go_wp2
     go_roundw
     case rel =>
      have hst:=hown.stored K (.string (swapB ss[K] T))
      have ho5:=hst.1
      rw [set_map,HFS.out] at ho5
      have hg5:=only_trans hg hst.2
      exact ⟨K+1,by omega,by omega,by go_num,HA2.out,by first|exact ho5|exact ho5.drewN _,by first|exact hg5|exact only_drewN hg5 _⟩
     case measure=>simp [intOf];omega
   ·have hKe:K=L+1:=by omega
    subst hKe
    have HP:=Lib.hid (boxRes_yes HH.out HA.out)
    have HFL:=Lib.hid (flips_len T ss F (L+1 - F))
    go_wp2
    refine bodyPost_ret (v:=.tuple #[.agg #[.int .i64 d,.int .i64 f,.slice (some ⟨g,0,none⟩) ss.length c1],.bool true]) (by simp [results,Tryz.results235,go_sem, *]) rfl ?_
    rw [HP.out]
    unfold FreshCardB
    dsimp only
    rw [HFL.out]
    exact ⟨_,c1,rfl,own_up hown upr (by first|exact Nat.le_refl _|(simp;done)|omega|(simp;omega)|exact (‹_∧_∧Below _ _ _›).2.2.size),bel⟩
theorem i_boxed_RaiseAt (d f:Int) (B:Nat) (A:Option Addr) (n c:Nat) (ss:List ByteArray) (F L T:Int) (w:World) (hS:Strs w B A n ss) (hB:B≤w.heap.size) :
  Calls Tryz.prog 235 #[.agg #[.int .i64 d,.int .i64 f,.slice A n c],.agg #[.int .i64 F,.int .i64 L,.int .i64 T],.func (.func 236) #[] #[]] w (FreshCardB w.heap.size d f (boxRes 100 d f ss F L T).1 (boxRes 100 d f ss F L T).2 w):=by
 have hn:=hS.nb
 have hl:=hS.len
 have hS2:=((hS.alloc hB (.cells #[.int .i64 d,.int .i64 f,.slice A n c] 26)).alloc (by simp;omega) (.cells #[.int .i64 F,.int .i64 L,.int .i64 T] 165)).alloc (by simp;omega) (.cells #[.int .i64 0,.int .i64 0,.slice none 0 0] 26)
 have hsr:=hS2.rd
 have HL:=Lib.hid hl
 cases hh:boxOk d f ss n F L
 ·have HP:=Lib.hid (boxRes_no (c:=100) (at_:=T) (show boxOk d f ss ss.length F L=false by rw [hl];exact hh))
  clear hl
  go_enter Tryz.func235,Tryz.ntmps235
  go_wp2_with (first|(go_at_call 267;refine (i_hasBox _ _ B _ _ _ ss _ _ _ _ hS2 (by simp;omega)).mono ?_;rw [hh];rintro e w1 ⟨rfl,hb1⟩;obtain ⟨hcb,hfb⟩:=bcell hb1;obtain ⟨qaa,qba,qca,qda,qea,qfa⟩:=zs3 (show w.heap.size+1+1<w1.heap.size by have hzz:=hb1.size;(try simp at hzz);omega);have hS3:=hS2.below (hb1.mono (by simp;omega)))|(go_at_call 122;refine (i_copied _ _ B _ _ _ ss _ hS3 (by omega)).mono ?_;rintro e w2 ⟨A1,c1,rfl,ho2,hb2⟩;obtain ⟨hcb2,hfb2⟩:=bcell hb2;obtain ⟨qga,qha,qia,qja,qka,qla⟩:=zs3 (show w.heap.size+1+1<w2.heap.size by have hzz:=hb2.size;(try simp at hzz);omega)))
  refine bodyPost_ret (v:=.tuple #[.agg #[.int .i64 d,.int .i64 f,.slice A1 ss.length c1],.bool false]) (by simp [results,Tryz.results235,go_sem, *]) rfl ?_
  rw [HP.out]
  exact ⟨A1,c1,rfl,own_up ho2 upr (by first|exact Nat.le_refl _|(simp;done)|omega|(simp;omega)|exact (‹_∧_∧Below _ _ _›).2.2.size),bel⟩
 ·obtain ⟨hF0,hFL,hLn⟩:=boxOk_iff hh
  obtain ⟨F,rfl⟩:=Int.eq_ofNat_of_zero_le hF0
  obtain ⟨L,rfl⟩:=Int.eq_ofNat_of_zero_le (show 0≤L by omega)
  have hFL':F≤L:=by omega
  have hLn':L<n:=by omega
  have HH:=Lib.hid (show boxOk d f ss ss.length F L=true by rw [hl];exact hh)
  clear hl hF0 hFL hLn hsr
  go_enter Tryz.func235,Tryz.ntmps235
  go_wp2_with (first|(go_at_call 267;refine (i_hasBox _ _ B _ _ _ ss _ _ _ _ hS2 (by simp;omega)).mono ?_;rw [hh];rintro e w1 ⟨rfl,hb1⟩;obtain ⟨hcb,hfb⟩:=bcell hb1;obtain ⟨qaa,qba,qca,qda,qea,qfa⟩:=zs3 (show w.heap.size+1+1<w1.heap.size by have hzz:=hb1.size;(try simp at hzz);omega);have hS3:=hS2.below (hb1.mono (by simp;omega)))|(go_at_call 122;refine (i_copied _ _ B _ _ _ ss _ hS3 (by omega)).mono ?_;rintro e w2 ⟨A1,c1,rfl,ho2,hb2⟩;obtain ⟨hcb2,hfb2⟩:=bcell hb2;obtain ⟨qga,qha,qia,qja,qka,qla⟩:=zs3 (show w.heap.size+1+1<w2.heap.size by have hzz:=hb2.size;(try simp at hzz);omega);(have hnl:0<ss.length:=(by have:=HL.out;omega));obtain ⟨g,cap,hv,hbg,hglt⟩:=ho2.form hnl;(have hA:A1=some ⟨g,0,none⟩:=(by injection hv));subst hA;clear hv;have hS4:=hS3.below (hb2.mono (by omega))))
  have ho3:=ho2.alloc (.cells #[.int .i64 d,.int .i64 f,.slice (some ⟨g,0,none⟩) ss.length c1] 26)
  have hbA:Below w2.heap.size w2 (w2.alloc (.cells #[.int .i64 d,.int .i64 f,.slice (some ⟨g,0,none⟩) ss.length c1] 26)):=bel
  have hko:(w2.alloc (.cells #[.int .i64 d,.int .i64 f,.slice (some ⟨g,0,none⟩) ss.length c1] 26)).heap[w2.heap.size]?=some (.cells #[.int .i64 d,.int .i64 f,.slice (some ⟨g,0,none⟩) ss.length c1] 26):=blk_new w2 (.cells #[.int .i64 d,.int .i64 f,.slice (some ⟨g,0,none⟩) ss.length c1] 26)
  have hb3:Below w.heap.size w (w2.alloc (.cells #[.int .i64 d,.int .i64 f,.slice (some ⟨g,0,none⟩) ss.length c1] 26)):=bel
  have hS5:=hS4.below (hbA.mono (by omega))
  have hwg:w.heap.size≤g:=by omega
  have hBg:B≤g:=by omega
  have qya:w.heap.size+3≤g:=(by have hzz:=hbg;(try simp at hzz);omega);have qma:g≠w.heap.size:=(by have hzz:=hbg;(try simp at hzz);omega);have qpa:=Ne.symm qma;have qna:g≠w.heap.size+1:=(by have hzz:=hbg;(try simp at hzz);omega);have qqa:=Ne.symm qna;have qoa:g≠w.heap.size+1+1:=(by have hzz:=hbg;(try simp at hzz);omega);have qra:=Ne.symm qoa
  go_loopw [9,10,11] (fun kk _ _ wr=>∃ K:Nat,F≤K∧K≤L+1∧kk=.int .i64 K∧Hid (allC 100 T ss F (K - F)=true)∧wr.ownsRow w1.heap.size 9 1 (.slice (some ⟨g,0,none⟩) ss.length c1) ss.length ((flips T ss F (K - F)).map Value.string)∧(w2.alloc (.cells #[.int .i64 d,.int .i64 f,.slice (some ⟨g,0,none⟩) ss.length c1] 26)).grownBy wr (some g)) (fun kk _ _ _=>L+1 - (intOf kk).toNat)
  case atStart=>exact ⟨F,Nat.le_refl _,by omega,rfl,by rw [Nat.sub_self];exact allC_zero _ _ _ _,by rw [Nat.sub_self,flips_zero];exact ho3,World.grownBy.refl _ _⟩
  case round =>
   obtain ⟨K,hFK,hKL,rfl,HA,hown,hg⟩:=hrel
   have hbr:Below w.heap.size w wr:=only_below_B hb3 hg hwg
   have hSr:=hS5.grown hg hBg (by simp;omega)
   have hzr:w2.heap.size+1≤wr.heap.size:=by have:=hg.size;simpa using this
   obtain ⟨hx0,hx1,hx2,hxl⟩:=blk3 ((hg.block w2.heap.size (by simp) (by intro e;injection e;omega)).trans hko)
   have hcb3:∀ b o,b<w2.heap.size→b≠g→wr.cell? ⟨b,o,none⟩=w2.cell? ⟨b,o,none⟩:=fun b o h hne=>((gcell hg).1 b o (by simp;omega) hne).trans ((bcell hbA).1 b o h)
   have hfb3:∀ b o,b<w2.heap.size→b≠g→wr.frozen? ⟨b,o,none⟩=w2.frozen? ⟨b,o,none⟩:=fun b o h hne=>((gcell hg).2 b o (by simp;omega) hne).trans ((bcell hbA).2 b o h)
   have hz0:w.heap.size<wr.heap.size:=by omega
   have hz1:w.heap.size+1<wr.heap.size:=by omega
   have hz2:w.heap.size+1+1<wr.heap.size:=by omega
   by_cases hlt:K≤L
   ·obtain ⟨hKs,ad,hAad,hab,hx,hsz⟩:=hSr.at_ (k:=K) (by omega)
    subst hAad
    have hKn:K<n:=by omega
    have hKl:K<ss.length:=hKs
    have hq:∀ W:World,Calls Tryz.prog 236 #[.string ss[K],.int .i64 T] W fun e w'=>e=.returned (.tuple #[.string (turnRes 100 ss[K] T),.bool (cornerB 100 ss[K] T)])∧∃ m,w'=W.drewN m:=fun W=>i_RaiseAt _ _ W hsz
    cases hcc:cornerB 100 ss[K] T
    ·rw [hcc] at hq
     have HQ:=hide hq
     clear hq
     have HP:=Lib.hid (boxRes_stop (d:=d) (f:=f) (L:=L) (allC_stopK (m:=L+1) hFK hKs (by omega) hcc))
     clear hcc
     go_wp2
     go_quiet ((go_at_call 236;first|exact quiet_ex (unhide HQ _)|exact quiet_add (unhide HQ _)))
     go_wp2_with (go_at_call 122;refine (i_copied _ _ B _ _ _ ss _ (hSr.drewN _) (by simp;omega)).mono ?_;rintro e w4 ⟨A4,c4,rfl,ho4,hb4'⟩;(have hb4:Below wr.heap.size wr w4:=⟨hb4'.os,hb4'.tape,hb4'.output,hb4'.size,hb4'.block⟩);clear hb4';obtain ⟨hcb4,hfb4⟩:=bcell hb4;obtain ⟨qsa,qta,qua,qva,qwa,qxa⟩:=zs3 (show w.heap.size+1+1<w4.heap.size by have hzz:=hb4.size;(try simp at hzz);omega))
     refine bodyPost_ret (v:=.tuple #[.agg #[.int .i64 d,.int .i64 f,.slice A4 ss.length c4],.bool false]) (by simp [results,Tryz.results235,go_sem, *]) rfl ?_
     rw [HP.out]
     exact ⟨A4,c4,rfl,own_up ho4 upr (by first|exact Nat.le_refl _|(simp;done)|omega|(simp;omega)|exact (‹_∧_∧Below _ _ _›).2.2.size),bel⟩
    ·rw [hcc,show turnRes 100 ss[K] T=swapB ss[K] T by unfold turnRes;rw [if_pos hcc]] at hq
     have HQ:=hide hq
     clear hq
     have HA2:=Lib.hid (allC_stepK hFK hKs HA.out hcc)
     have HFS:=Lib.hid (flips_stepK T ss F K hFK hKs)
     clear hcc
     obtain ⟨u1,hc1⟩:=own_cell hown (j:=K) hKl
     have hf1:=hown.frozenAt K
     go_wp2
     go_quiet ((go_at_call 236;first|exact quiet_ex (unhide HQ _)|exact quiet_add (unhide HQ _)))
     go_wp2
     go_roundw
     case rel =>
      have hst:=hown.stored K (.string (swapB ss[K] T))
      have ho5:=hst.1
      rw [set_map,HFS.out] at ho5
      have hg5:=only_trans hg hst.2
      exact ⟨K+1,by omega,by omega,by go_num,HA2.out,by first|exact ho5|exact ho5.drewN _,by first|exact hg5|exact only_drewN hg5 _⟩
     case measure=>simp [intOf];omega
   ·have hKe:K=L+1:=by omega
    subst hKe
    have HP:=Lib.hid (boxRes_yes HH.out HA.out)
    have HFL:=Lib.hid (flips_len T ss F (L+1 - F))
    go_wp2
    refine bodyPost_ret (v:=.tuple #[.agg #[.int .i64 d,.int .i64 f,.slice (some ⟨g,0,none⟩) ss.length c1],.bool true]) (by simp [results,Tryz.results235,go_sem, *]) rfl ?_
    rw [HP.out]
    unfold FreshCardB
    dsimp only
    rw [HFL.out]
    exact ⟨_,c1,rfl,own_up hown upr (by first|exact Nat.le_refl _|(simp;done)|omega|(simp;omega)|exact (‹_∧_∧Below _ _ _›).2.2.size),bel⟩
theorem i_TakeBox (d f:Int) (B:Nat) (A:Option Addr) (n c:Nat) (ss:List ByteArray) (F L T:Int) (w:World) (hS:Strs w B A n ss) (hB:B≤w.heap.size) :
  Calls Tryz.prog 189 #[.agg #[.int .i64 d,.int .i64 f,.slice A n c],.agg #[.int .i64 F,.int .i64 L,.int .i64 T]] w (FreshCardB w.heap.size d f (boxRes 102 d f ss F L T).1 (boxRes 102 d f ss F L T).2 w):=by
 have hS2:=((hS.alloc hB (.cells #[.int .i64 d,.int .i64 f,.slice A n c] 26)).alloc (by simp;omega) (.cells #[.int .i64 F,.int .i64 L,.int .i64 T] 165)).alloc (by simp;omega) (.cells #[.int .i64 0,.int .i64 0,.slice none 0 0] 26)
 go_enter Tryz.func189,Tryz.ntmps189
 go_wp2_with (go_at_call 235;refine (i_boxed_LowerAt _ _ B _ _ _ ss _ _ _ _ hS2 (by simp;omega)).mono ?_;rintro e w1 ⟨A1,c1,rfl,ho1,hb1⟩;obtain ⟨hcb,hfb⟩:=bcell hb1;obtain ⟨qaa,qba,qca,qda,qea,qfa⟩:=zs3 (show w.heap.size+1+1<w1.heap.size by have hzz:=hb1.size;(try simp at hzz);omega))
 refine bodyPost_ret (v:=.tuple #[.agg #[.int .i64 d,.int .i64 f,.slice A1 _ c1],.bool _]) (by simp [results,Tryz.results189,go_sem, *];exact ⟨rfl,rfl⟩) rfl ?_
 exact ⟨A1,c1,rfl,own_up ho1 upr (by first|exact Nat.le_refl _|(simp;done)|omega|(simp;omega)|exact (‹_∧_∧Below _ _ _›).2.2.size),bel⟩
theorem i_AddBox (d f:Int) (B:Nat) (A:Option Addr) (n c:Nat) (ss:List ByteArray) (F L T:Int) (w:World) (hS:Strs w B A n ss) (hB:B≤w.heap.size) :
  Calls Tryz.prog 188 #[.agg #[.int .i64 d,.int .i64 f,.slice A n c],.agg #[.int .i64 F,.int .i64 L,.int .i64 T]] w (FreshCardB w.heap.size d f (boxRes 100 d f ss F L T).1 (boxRes 100 d f ss F L T).2 w):=by
 have hS2:=((hS.alloc hB (.cells #[.int .i64 d,.int .i64 f,.slice A n c] 26)).alloc (by simp;omega) (.cells #[.int .i64 F,.int .i64 L,.int .i64 T] 165)).alloc (by simp;omega) (.cells #[.int .i64 0,.int .i64 0,.slice none 0 0] 26)
 go_enter Tryz.func188,Tryz.ntmps188
 go_wp2_with (go_at_call 235;refine (i_boxed_RaiseAt _ _ B _ _ _ ss _ _ _ _ hS2 (by simp;omega)).mono ?_;rintro e w1 ⟨A1,c1,rfl,ho1,hb1⟩;obtain ⟨hcb,hfb⟩:=bcell hb1;obtain ⟨qaa,qba,qca,qda,qea,qfa⟩:=zs3 (show w.heap.size+1+1<w1.heap.size by have hzz:=hb1.size;(try simp at hzz);omega))
 refine bodyPost_ret (v:=.tuple #[.agg #[.int .i64 d,.int .i64 f,.slice A1 _ c1],.bool _]) (by simp [results,Tryz.results188,go_sem, *];exact ⟨rfl,rfl⟩) rfl ?_
 exact ⟨A1,c1,rfl,own_up ho1 upr (by first|exact Nat.le_refl _|(simp;done)|omega|(simp;omega)|exact (‹_∧_∧Below _ _ _›).2.2.size),bel⟩
end Go.Proofs.YtlimlolciekimaaGreatDoor
