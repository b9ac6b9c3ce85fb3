/- Contracts of the program's and the reference's functions (Fmt1, Fmt2). -/
import Derived.Handy
import Derived.Lib.Hide
import Derived.Test.YtlimlolciekimaaGreatDoorRows
import Derived.Test.YtlimlolciekimaaGreatDoorQHo
import Derived.Test.YtlimlolciekimaaGreatDoorQHa
import Derived.Test.YtlimlolciekimaaGreatDoorQHb
namespace Go.Proofs.YtlimlolciekimaaGreatDoor
set_option maxHeartbeats 1600000
open Go.ChangeShapes Go.WideShapes Go.ChangeAt Go.RowKit
set_option linter.unusedVariables false
set_option maxRecDepth 10000
abbrev Tab (w : World) : Prop := Lib.TabIs Tryz.prog w "internal/strconv.uint64pow10" .u64 Lib.pow10Tab
theorem tab_grow (w:World) (k:Nat) (os:Array Obj):Below w.heap.size w (Go.Sort.grow (w.drewN k) os):=by
 refine ⟨rfl,rfl,rfl,by simp [Go.Sort.grow],fun i hi=>?_⟩
 show (w.heap++os)[i]?=w.heap[i]?
 exact Array.getElem?_append_left hi
theorem Tab.below {w w':World} (h:Tab w) (hb:Below w.heap.size w w'):Tab w':=by
 unfold Tab Lib.TabIs World.var? at h ⊢
 cases hg : Tryz.prog.globalNamed "internal/strconv.uint64pow10" with
 |none=>rw [hg] at h;cases h
 |some g =>
  rw [hg] at h
  have hlt:g<w.heap.size:=by
   by_cases h0:g<w.heap.size
   ·exact h0
   ·simp [Array.getElem?_eq_none (Nat.le_of_not_lt h0)] at h
  simp only [Option.bind_some] at h ⊢
  rw [hb.block g hlt]
  exact h
theorem size1 (x:UInt8):(⟨#[x]⟩:ByteArray).size=1:=rfl
def numT (n:Nat):ByteArray:=⟨(Lib.decDigits n).toArray⟩
theorem numT_lt {n:Nat} (h:n<10):numT n=⟨#[(48+n).toUInt8]⟩:=by
 unfold numT;rw [Lib.decDigits,dif_pos h]
theorem numT_ge {n:Nat} (h:10≤n):numT n=numT (n / 10)++⟨#[(48+n % 10).toUInt8]⟩:=by
 apply ba_ext
 rw [ByteArray.data_append,Array.toList_append]
 show Lib.decDigits n=Lib.decDigits (n / 10)++_
 rw [Lib.decDigits,dif_neg (by omega)]
theorem itoa_nat (n:Nat):(⟨(Lib.itoa (n:Int)).toArray⟩:ByteArray)=numT n:=by
 unfold Lib.itoa numT
 rw [if_neg (by omega)]
 simp
theorem numT_size:∀ n:Nat,(numT n).size≤n+1:=by
 intro n
 induction n using Nat.strongRecOn with
 |ind n ih =>
  by_cases h:n<10
  ·rw [numT_lt h];show 1≤n+1;omega
  ·rw [numT_ge (by omega),ByteArray.size_append,size1]
   have:=ih (n / 10) (by omega)
   omega
theorem i_FormatInt (n:Nat) (w:World) (hn:n≤1000000000) (ht:Tab w) :
  Calls Tryz.prog 26 #[.int .i64 n] w fun e w'=>e=.returned (.string (numT n))∧Below w.heap.size w w':=by
 go_enter Tryz.func26,Tryz.ntmps26
 go_wp2_with fail
 refine (Tryz.strconv_Itoa n (by omega) (by omega) w ht).mono ?_
 rintro e w1 ⟨rfl,hk⟩
 have hb:Below w.heap.size w w1:=by
  obtain ⟨k,os,hk⟩:=hk
  rw [hk]
  exact tab_grow w k os
 clear hk
 rw [itoa_nat]
 go_wp2
 go_ret
 exact ⟨rfl,hb⟩
def wordT:Nat→ByteArray
 |1=>⟨#[97,100,100]⟩
 |2=>⟨#[116,97,107,101]⟩
 |3=>⟨#[117,110,100,111]⟩
 |4=>⟨#[112,97,112,101,114]⟩
 |5=>⟨#[107,101,101,112]⟩
 |6=>⟨#[109,97,107,101]⟩
 |7=>⟨#[102,111,114,103,101,116]⟩
 |_=>⟨#[114,111,111,109]⟩
def wordN:Nat→Nat
 |1=>2
 |2=>2
 |4=>2
 |5=>1
 |6=>2
 |7=>1
 |_=>0
def actT (k a b:Nat):ByteArray :=
 if wordN k=0 then wordT k else if wordN k=1 then wordT k++(⟨#[32]⟩++numT a) else wordT k++(⟨#[32]⟩++numT a)++(⟨#[32]⟩++numT b)
def fmtRes (k a b:Int):ByteArray×Bool:=if actOk k a b=true then (actT k.toNat a.toNat b.toNat,true) else (⟨#[]⟩,false)
theorem fmtRes_no {k a b:Int} (h:actOk k a b=false):fmtRes k a b=(⟨#[]⟩,false):=by unfold fmtRes;rw [h];rfl
theorem actOk_parts {k a b:Int} (h:actOk k a b=true):(k=1∨k=2∨k=3∨k=4∨k=5∨k=6∨k=7∨k=8)∧∃ A B:Nat,a=A∧b=B∧A≤9∧B≤1000:=by
 have h2:(k=1∨k=2∨k=3∨k=4∨k=5∨k=6∨k=7∨k=8)∧0≤a∧0≤b∧a≤9∧b≤1000:=by
  unfold actOk inB at h
  split at h <;> (try split at h) <;> (try split at h) <;> (try split at h) <;> simp_all <;> omega
 exact ⟨h2.1,a.toNat,b.toNat,by omega,by omega,by omega,by omega⟩
theorem fmtRes_yes {k:Int} {A B:Nat} (h:actOk k A B=true):fmtRes k A B=(actT k.toNat A B,true):=by unfold fmtRes;rw [h];simp
theorem i_FormatAct_no (k a b:Int) (w:World) (hc:actOk k a b=false) :
  Calls Tryz.prog 24 #[.agg #[.int .i64 k,.int .i64 a,.int .i64 b]] w fun e w'=>e=.returned (.tuple #[.string ⟨#[]⟩,.bool false])∧Below w.heap.size w w':=by
 have HC:=Lib.hid hc
 clear hc
 go_enter Tryz.func24,Tryz.ntmps24
 go_wp2_with (go_at_call 61;refine (i_ActOk _ _ _ _).mono ?_;rw [HC.out];rintro e w1 ⟨rfl,hb1⟩)
 go_ret2
 exact ⟨rfl,bel⟩
theorem i_FormatAct_1 (A B:Nat) (w:World) (ht:Tab w) (hc:actOk 1 A B=true) (h3:A≤9) (h4:B≤1000) :
  Calls Tryz.prog 24 #[.agg #[.int .i64 1,.int .i64 A,.int .i64 B]] w fun e w'=>e=.returned (.tuple #[.string (actT 1 A B),.bool true])∧Below w.heap.size w w':=by
 have hsA:=numT_size A
 have hsB:=numT_size B
 have ov1:¬9223372036854775807<(⟨#[32]⟩:ByteArray).size+(numT A).size:=by rw [size1];omega
 have ov2:¬9223372036854775807<(⟨#[32]⟩:ByteArray).size+(numT B).size:=by rw [size1];omega
 have hw6:(wordT 1).size≤6:=by decide
 have ov3:¬9223372036854775807<(wordT 1).size+((⟨#[32]⟩:ByteArray)++numT A).size:=by rw [ByteArray.size_append,size1];omega
 have ov4:¬9223372036854775807<(wordT 1++((⟨#[32]⟩:ByteArray)++numT A)).size+((⟨#[32]⟩:ByteArray)++numT B).size:=by rw [ByteArray.size_append,ByteArray.size_append,ByteArray.size_append,size1];omega
 clear hw6
 simp only [wordT] at ov3 ov4
 have HC:=Lib.hid hc
 clear hc
 go_enter Tryz.func24,Tryz.ntmps24
 go_wp2_with fail
 have hk0:=blk_new w (.cells #[.int .i64 1,.int .i64 A,.int .i64 B] 61)
 have hb0:Below w.heap.size w (w.alloc (.cells #[.int .i64 1,.int .i64 A,.int .i64 B] 61)):=bel
 generalize (w.alloc (.cells #[.int .i64 1,.int .i64 A,.int .i64 B] 61))=w0 at *
 refine (i_ActOk _ _ _ _).mono ?_
 rw [HC.out]
 rintro e w1 ⟨rfl,hb1⟩
 have hk1:=blk_next hk0 hb1
 have hbw1:Below w.heap.size w w1:=hb0.trans (hb1.mono hb0.size)
 clear hk0 hb0 hb1
 obtain ⟨hx0,hx1,hx2,hxl⟩:=blk3 hk1
 go_wp2_with (go_at_call 62;go_in)
 clear hx0 hx1 hx2 hxl
 refine (i_FormatInt A w1 (by omega) (ht.below hbw1)).mono ?_
 rintro e w2 ⟨rfl,hb2⟩
 have hk2:=blk_next hk1 hb2
 have hbw2:Below w.heap.size w w2:=hbw1.trans (hb2.mono hbw1.size)
 obtain ⟨hx0,hx1,hx2,hxl⟩:=blk3 hk2
 go_wp2_with fail
 clear hx0 hx1 hx2 hxl
 refine (i_FormatInt B w2 (by omega) (ht.below hbw2)).mono ?_
 rintro e w3 ⟨rfl,hb3⟩
 have hk3:=blk_next hk2 hb3
 have hbw3:Below w.heap.size w w3:=hbw2.trans (hb3.mono hbw2.size)
 obtain ⟨hx0,hx1,hx2,hxl⟩:=blk3 hk3
 go_wp2_with fail
 go_ret2
 exact ⟨by rfl,hbw3⟩
theorem i_FormatAct_2 (A B:Nat) (w:World) (ht:Tab w) (hc:actOk 2 A B=true) (h3:A≤9) (h4:B≤1000) :
  Calls Tryz.prog 24 #[.agg #[.int .i64 2,.int .i64 A,.int .i64 B]] w fun e w'=>e=.returned (.tuple #[.string (actT 2 A B),.bool true])∧Below w.heap.size w w':=by
 have hsA:=numT_size A
 have hsB:=numT_size B
 have ov1:¬9223372036854775807<(⟨#[32]⟩:ByteArray).size+(numT A).size:=by rw [size1];omega
 have ov2:¬9223372036854775807<(⟨#[32]⟩:ByteArray).size+(numT B).size:=by rw [size1];omega
 have hw6:(wordT 2).size≤6:=by decide
 have ov3:¬9223372036854775807<(wordT 2).size+((⟨#[32]⟩:ByteArray)++numT A).size:=by rw [ByteArray.size_append,size1];omega
 have ov4:¬9223372036854775807<(wordT 2++((⟨#[32]⟩:ByteArray)++numT A)).size+((⟨#[32]⟩:ByteArray)++numT B).size:=by rw [ByteArray.size_append,ByteArray.size_append,ByteArray.size_append,size1];omega
 clear hw6
 simp only [wordT] at ov3 ov4
 have HC:=Lib.hid hc
 clear hc
 go_enter Tryz.func24,Tryz.ntmps24
 go_wp2_with fail
 have hk0:=blk_new w (.cells #[.int .i64 2,.int .i64 A,.int .i64 B] 61)
 have hb0:Below w.heap.size w (w.alloc (.cells #[.int .i64 2,.int .i64 A,.int .i64 B] 61)):=bel
 generalize (w.alloc (.cells #[.int .i64 2,.int .i64 A,.int .i64 B] 61))=w0 at *
 refine (i_ActOk _ _ _ _).mono ?_
 rw [HC.out]
 rintro e w1 ⟨rfl,hb1⟩
 have hk1:=blk_next hk0 hb1
 have hbw1:Below w.heap.size w w1:=hb0.trans (hb1.mono hb0.size)
 clear hk0 hb0 hb1
 obtain ⟨hx0,hx1,hx2,hxl⟩:=blk3 hk1
 go_wp2_with (go_at_call 62;go_in)
 clear hx0 hx1 hx2 hxl
 refine (i_FormatInt A w1 (by omega) (ht.below hbw1)).mono ?_
 rintro e w2 ⟨rfl,hb2⟩
 have hk2:=blk_next hk1 hb2
 have hbw2:Below w.heap.size w w2:=hbw1.trans (hb2.mono hbw1.size)
 obtain ⟨hx0,hx1,hx2,hxl⟩:=blk3 hk2
 go_wp2_with fail
 clear hx0 hx1 hx2 hxl
 refine (i_FormatInt B w2 (by omega) (ht.below hbw2)).mono ?_
 rintro e w3 ⟨rfl,hb3⟩
 have hk3:=blk_next hk2 hb3
 have hbw3:Below w.heap.size w w3:=hbw2.trans (hb3.mono hbw2.size)
 obtain ⟨hx0,hx1,hx2,hxl⟩:=blk3 hk3
 go_wp2_with fail
 go_ret2
 exact ⟨by rfl,hbw3⟩
theorem i_FormatAct_3 (A B:Nat) (w:World) (ht:Tab w) (hc:actOk 3 A B=true) (h3:A≤9) (h4:B≤1000) :
  Calls Tryz.prog 24 #[.agg #[.int .i64 3,.int .i64 A,.int .i64 B]] w fun e w'=>e=.returned (.tuple #[.string (actT 3 A B),.bool true])∧Below w.heap.size w w':=by
 have hsA:=numT_size A
 have hsB:=numT_size B
 have ov1:¬9223372036854775807<(⟨#[32]⟩:ByteArray).size+(numT A).size:=by rw [size1];omega
 have ov2:¬9223372036854775807<(⟨#[32]⟩:ByteArray).size+(numT B).size:=by rw [size1];omega
 have hw6:(wordT 3).size≤6:=by decide
 have ov3:¬9223372036854775807<(wordT 3).size+((⟨#[32]⟩:ByteArray)++numT A).size:=by rw [ByteArray.size_append,size1];omega
 have ov4:¬9223372036854775807<(wordT 3++((⟨#[32]⟩:ByteArray)++numT A)).size+((⟨#[32]⟩:ByteArray)++numT B).size:=by rw [ByteArray.size_append,ByteArray.size_append,ByteArray.size_append,size1];omega
 clear hw6
 simp only [wordT] at ov3 ov4
 have HC:=Lib.hid hc
 clear hc
 go_enter Tryz.func24,Tryz.ntmps24
 go_wp2_with fail
 have hk0:=blk_new w (.cells #[.int .i64 3,.int .i64 A,.int .i64 B] 61)
 have hb0:Below w.heap.size w (w.alloc (.cells #[.int .i64 3,.int .i64 A,.int .i64 B] 61)):=bel
 generalize (w.alloc (.cells #[.int .i64 3,.int .i64 A,.int .i64 B] 61))=w0 at *
 refine (i_ActOk _ _ _ _).mono ?_
 rw [HC.out]
 rintro e w1 ⟨rfl,hb1⟩
 have hk1:=blk_next hk0 hb1
 have hbw1:Below w.heap.size w w1:=hb0.trans (hb1.mono hb0.size)
 clear hk0 hb0 hb1
 obtain ⟨hx0,hx1,hx2,hxl⟩:=blk3 hk1
 go_wp2_with (go_at_call 62;go_in)
 go_ret2
 exact ⟨by rfl,hbw1⟩
theorem i_FormatAct_4 (A B:Nat) (w:World) (ht:Tab w) (hc:actOk 4 A B=true) (h3:A≤9) (h4:B≤1000) :
  Calls Tryz.prog 24 #[.agg #[.int .i64 4,.int .i64 A,.int .i64 B]] w fun e w'=>e=.returned (.tuple #[.string (actT 4 A B),.bool true])∧Below w.heap.size w w':=by
 have hsA:=numT_size A
 have hsB:=numT_size B
 have ov1:¬9223372036854775807<(⟨#[32]⟩:ByteArray).size+(numT A).size:=by rw [size1];omega
 have ov2:¬9223372036854775807<(⟨#[32]⟩:ByteArray).size+(numT B).size:=by rw [size1];omega
 have hw6:(wordT 4).size≤6:=by decide
 have ov3:¬9223372036854775807<(wordT 4).size+((⟨#[32]⟩:ByteArray)++numT A).size:=by rw [ByteArray.size_append,size1];omega
 have ov4:¬9223372036854775807<(wordT 4++((⟨#[32]⟩:ByteArray)++numT A)).size+((⟨#[32]⟩:ByteArray)++numT B).size:=by rw [ByteArray.size_append,ByteArray.size_append,ByteArray.size_append,size1];omega
 clear hw6
 simp only [wordT] at ov3 ov4
 have HC:=Lib.hid hc
 clear hc
 go_enter Tryz.func24,Tryz.ntmps24
 go_wp2_with fail
 have hk0:=blk_new w (.cells #[.int .i64 4,.int .i64 A,.int .i64 B] 61)
 have hb0:Below w.heap.size w (w.alloc (.cells #[.int .i64 4,.int .i64 A,.int .i64 B] 61)):=bel
 generalize (w.alloc (.cells #[.int .i64 4,.int .i64 A,.int .i64 B] 61))=w0 at *
 refine (i_ActOk _ _ _ _).mono ?_
 rw [HC.out]
 rintro e w1 ⟨rfl,hb1⟩
 have hk1:=blk_next hk0 hb1
 have hbw1:Below w.heap.size w w1:=hb0.trans (hb1.mono hb0.size)
 clear hk0 hb0 hb1
 obtain ⟨hx0,hx1,hx2,hxl⟩:=blk3 hk1
 go_wp2_with (go_at_call 62;go_in)
 clear hx0 hx1 hx2 hxl
 refine (i_FormatInt A w1 (by omega) (ht.below hbw1)).mono ?_
 rintro e w2 ⟨rfl,hb2⟩
 have hk2:=blk_next hk1 hb2
 have hbw2:Below w.heap.size w w2:=hbw1.trans (hb2.mono hbw1.size)
 obtain ⟨hx0,hx1,hx2,hxl⟩:=blk3 hk2
 go_wp2_with fail
 clear hx0 hx1 hx2 hxl
 refine (i_FormatInt B w2 (by omega) (ht.below hbw2)).mono ?_
 rintro e w3 ⟨rfl,hb3⟩
 have hk3:=blk_next hk2 hb3
 have hbw3:Below w.heap.size w w3:=hbw2.trans (hb3.mono hbw2.size)
 obtain ⟨hx0,hx1,hx2,hxl⟩:=blk3 hk3
 go_wp2_with fail
 go_ret2
 exact ⟨by rfl,hbw3⟩
theorem i_FormatAct_5 (A B:Nat) (w:World) (ht:Tab w) (hc:actOk 5 A B=true) (h3:A≤9) (h4:B≤1000) :
  Calls Tryz.prog 24 #[.agg #[.int .i64 5,.int .i64 A,.int .i64 B]] w fun e w'=>e=.returned (.tuple #[.string (actT 5 A B),.bool true])∧Below w.heap.size w w':=by
 have hsA:=numT_size A
 have hsB:=numT_size B
 have ov1:¬9223372036854775807<(⟨#[32]⟩:ByteArray).size+(numT A).size:=by rw [size1];omega
 have ov2:¬9223372036854775807<(⟨#[32]⟩:ByteArray).size+(numT B).size:=by rw [size1];omega
 have hw6:(wordT 5).size≤6:=by decide
 have ov3:¬9223372036854775807<(wordT 5).size+((⟨#[32]⟩:ByteArray)++numT A).size:=by rw [ByteArray.size_append,size1];omega
 have ov4:¬9223372036854775807<(wordT 5++((⟨#[32]⟩:ByteArray)++numT A)).size+((⟨#[32]⟩:ByteArray)++numT B).size:=by rw [ByteArray.size_append,ByteArray.size_append,ByteArray.size_append,size1];omega
 clear hw6
 simp only [wordT] at ov3 ov4
 have HC:=Lib.hid hc
 clear hc
 go_enter Tryz.func24,Tryz.ntmps24
 go_wp2_with fail
 have hk0:=blk_new w (.cells #[.int .i64 5,.int .i64 A,.int .i64 B] 61)
 have hb0:Below w.heap.size w (w.alloc (.cells #[.int .i64 5,.int .i64 A,.int .i64 B] 61)):=bel
 generalize (w.alloc (.cells #[.int .i64 5,.int .i64 A,.int .i64 B] 61))=w0 at *
 refine (i_ActOk _ _ _ _).mono ?_
 rw [HC.out]
 rintro e w1 ⟨rfl,hb1⟩
 have hk1:=blk_next hk0 hb1
 have hbw1:Below w.heap.size w w1:=hb0.trans (hb1.mono hb0.size)
 clear hk0 hb0 hb1
 obtain ⟨hx0,hx1,hx2,hxl⟩:=blk3 hk1
 go_wp2_with (go_at_call 62;go_in)
 clear hx0 hx1 hx2 hxl
 refine (i_FormatInt A w1 (by omega) (ht.below hbw1)).mono ?_
 rintro e w2 ⟨rfl,hb2⟩
 have hk2:=blk_next hk1 hb2
 have hbw2:Below w.heap.size w w2:=hbw1.trans (hb2.mono hbw1.size)
 obtain ⟨hx0,hx1,hx2,hxl⟩:=blk3 hk2
 go_wp2_with fail
 go_ret2
 exact ⟨by rfl,hbw2⟩
theorem i_FormatAct_6 (A B:Nat) (w:World) (ht:Tab w) (hc:actOk 6 A B=true) (h3:A≤9) (h4:B≤1000) :
  Calls Tryz.prog 24 #[.agg #[.int .i64 6,.int .i64 A,.int .i64 B]] w fun e w'=>e=.returned (.tuple #[.string (actT 6 A B),.bool true])∧Below w.heap.size w w':=by
 have hsA:=numT_size A
 have hsB:=numT_size B
 have ov1:¬9223372036854775807<(⟨#[32]⟩:ByteArray).size+(numT A).size:=by rw [size1];omega
 have ov2:¬9223372036854775807<(⟨#[32]⟩:ByteArray).size+(numT B).size:=by rw [size1];omega
 have hw6:(wordT 6).size≤6:=by decide
 have ov3:¬9223372036854775807<(wordT 6).size+((⟨#[32]⟩:ByteArray)++numT A).size:=by rw [ByteArray.size_append,size1];omega
 have ov4:¬9223372036854775807<(wordT 6++((⟨#[32]⟩:ByteArray)++numT A)).size+((⟨#[32]⟩:ByteArray)++numT B).size:=by rw [ByteArray.size_append,ByteArray.size_append,ByteArray.size_append,size1];omega
 clear hw6
 simp only [wordT] at ov3 ov4
 have HC:=Lib.hid hc
 clear hc
 go_enter Tryz.func24,Tryz.ntmps24
 go_wp2_with fail
 have hk0:=blk_new w (.cells #[.int .i64 6,.int .i64 A,.int .i64 B] 61)
 have hb0:Below w.heap.size w (w.alloc (.cells #[.int .i64 6,.int .i64 A,.int .i64 B] 61)):=bel
 generalize (w.alloc (.cells #[.int .i64 6,.int .i64 A,.int .i64 B] 61))=w0 at *
 refine (i_ActOk _ _ _ _).mono ?_
 rw [HC.out]
 rintro e w1 ⟨rfl,hb1⟩
 have hk1:=blk_next hk0 hb1
 have hbw1:Below w.heap.size w w1:=hb0.trans (hb1.mono hb0.size)
 clear hk0 hb0 hb1
 obtain ⟨hx0,hx1,hx2,hxl⟩:=blk3 hk1
 go_wp2_with (go_at_call 62;go_in)
 clear hx0 hx1 hx2 hxl
 refine (i_FormatInt A w1 (by omega) (ht.below hbw1)).mono ?_
 rintro e w2 ⟨rfl,hb2⟩
 have hk2:=blk_next hk1 hb2
 have hbw2:Below w.heap.size w w2:=hbw1.trans (hb2.mono hbw1.size)
 obtain ⟨hx0,hx1,hx2,hxl⟩:=blk3 hk2
 go_wp2_with fail
 clear hx0 hx1 hx2 hxl
 refine (i_FormatInt B w2 (by omega) (ht.below hbw2)).mono ?_
 rintro e w3 ⟨rfl,hb3⟩
 have hk3:=blk_next hk2 hb3
 have hbw3:Below w.heap.size w w3:=hbw2.trans (hb3.mono hbw2.size)
 obtain ⟨hx0,hx1,hx2,hxl⟩:=blk3 hk3
 go_wp2_with fail
 go_ret2
 exact ⟨by rfl,hbw3⟩
theorem i_FormatAct_7 (A B:Nat) (w:World) (ht:Tab w) (hc:actOk 7 A B=true) (h3:A≤9) (h4:B≤1000) :
  Calls Tryz.prog 24 #[.agg #[.int .i64 7,.int .i64 A,.int .i64 B]] w fun e w'=>e=.returned (.tuple #[.string (actT 7 A B),.bool true])∧Below w.heap.size w w':=by
 have hsA:=numT_size A
 have hsB:=numT_size B
 have ov1:¬9223372036854775807<(⟨#[32]⟩:ByteArray).size+(numT A).size:=by rw [size1];omega
 have ov2:¬9223372036854775807<(⟨#[32]⟩:ByteArray).size+(numT B).size:=by rw [size1];omega
 have hw6:(wordT 7).size≤6:=by decide
 have ov3:¬9223372036854775807<(wordT 7).size+((⟨#[32]⟩:ByteArray)++numT A).size:=by rw [ByteArray.size_append,size1];omega
 have ov4:¬9223372036854775807<(wordT 7++((⟨#[32]⟩:ByteArray)++numT A)).size+((⟨#[32]⟩:ByteArray)++numT B).size:=by rw [ByteArray.size_append,ByteArray.size_append,ByteArray.size_append,size1];omega
 clear hw6
 simp only [wordT] at ov3 ov4
 have HC:=Lib.hid hc
 clear hc
 go_enter Tryz.func24,Tryz.ntmps24
 go_wp2_with fail
 have hk0:=blk_new w (.cells #[.int .i64 7,.int .i64 A,.int .i64 B] 61)
 have hb0:Below w.heap.size w (w.alloc (.cells #[.int .i64 7,.int .i64 A,.int .i64 B] 61)):=bel
 generalize (w.alloc (.cells #[.int .i64 7,.int .i64 A,.int .i64 B] 61))=w0 at *
 refine (i_ActOk _ _ _ _).mono ?_
 rw [HC.out]
 rintro e w1 ⟨rfl,hb1⟩
 have hk1:=blk_next hk0 hb1
 have hbw1:Below w.heap.size w w1:=hb0.trans (hb1.mono hb0.size)
 clear hk0 hb0 hb1
 obtain ⟨hx0,hx1,hx2,hxl⟩:=blk3 hk1
 go_wp2_with (go_at_call 62;go_in)
 clear hx0 hx1 hx2 hxl
 refine (i_FormatInt A w1 (by omega) (ht.below hbw1)).mono ?_
 rintro e w2 ⟨rfl,hb2⟩
 have hk2:=blk_next hk1 hb2
 have hbw2:Below w.heap.size w w2:=hbw1.trans (hb2.mono hbw1.size)
 obtain ⟨hx0,hx1,hx2,hxl⟩:=blk3 hk2
 go_wp2_with fail
 go_ret2
 exact ⟨by rfl,hbw2⟩
theorem i_FormatAct_8 (A B:Nat) (w:World) (ht:Tab w) (hc:actOk 8 A B=true) (h3:A≤9) (h4:B≤1000) :
  Calls Tryz.prog 24 #[.agg #[.int .i64 8,.int .i64 A,.int .i64 B]] w fun e w'=>e=.returned (.tuple #[.string (actT 8 A B),.bool true])∧Below w.heap.size w w':=by
 have hsA:=numT_size A
 have hsB:=numT_size B
 have ov1:¬9223372036854775807<(⟨#[32]⟩:ByteArray).size+(numT A).size:=by rw [size1];omega
 have ov2:¬9223372036854775807<(⟨#[32]⟩:ByteArray).size+(numT B).size:=by rw [size1];omega
 have hw6:(wordT 8).size≤6:=by decide
 have ov3:¬9223372036854775807<(wordT 8).size+((⟨#[32]⟩:ByteArray)++numT A).size:=by rw [ByteArray.size_append,size1];omega
 have ov4:¬9223372036854775807<(wordT 8++((⟨#[32]⟩:ByteArray)++numT A)).size+((⟨#[32]⟩:ByteArray)++numT B).size:=by rw [ByteArray.size_append,ByteArray.size_append,ByteArray.size_append,size1];omega
 clear hw6
 simp only [wordT] at ov3 ov4
 have HC:=Lib.hid hc
 clear hc
 go_enter Tryz.func24,Tryz.ntmps24
 go_wp2_with fail
 have hk0:=blk_new w (.cells #[.int .i64 8,.int .i64 A,.int .i64 B] 61)
 have hb0:Below w.heap.size w (w.alloc (.cells #[.int .i64 8,.int .i64 A,.int .i64 B] 61)):=bel
 generalize (w.alloc (.cells #[.int .i64 8,.int .i64 A,.int .i64 B] 61))=w0 at *
 refine (i_ActOk _ _ _ _).mono ?_
 rw [HC.out]
 rintro e w1 ⟨rfl,hb1⟩
 have hk1:=blk_next hk0 hb1
 have hbw1:Below w.heap.size w w1:=hb0.trans (hb1.mono hb0.size)
 clear hk0 hb0 hb1
 obtain ⟨hx0,hx1,hx2,hxl⟩:=blk3 hk1
 go_wp2_with (go_at_call 62;go_in)
 go_ret2
 exact ⟨by rfl,hbw1⟩
theorem i_FormatAct (k a b:Int) (w:World) (ht:Tab w) :
  Calls Tryz.prog 24 #[.agg #[.int .i64 k,.int .i64 a,.int .i64 b]] w fun e w'=>e=.returned (.tuple #[.string (fmtRes k a b).1,.bool (fmtRes k a b).2])∧Below w.heap.size w w':=by
 cases hc:actOk k a b
 ·rw [fmtRes_no hc];exact i_FormatAct_no k a b w hc
 ·obtain ⟨hk,A,B,rfl,rfl,h3,h4⟩:=actOk_parts hc
  rw [fmtRes_yes hc]
  rcases hk with rfl|rfl|rfl|rfl|rfl|rfl|rfl|rfl
  ·exact i_FormatAct_1 A B w ht hc h3 h4
  ·exact i_FormatAct_2 A B w ht hc h3 h4
  ·exact i_FormatAct_3 A B w ht hc h3 h4
  ·exact i_FormatAct_4 A B w ht hc h3 h4
  ·exact i_FormatAct_5 A B w ht hc h3 h4
  ·exact i_FormatAct_6 A B w ht hc h3 h4
  ·exact i_FormatAct_7 A B w ht hc h3 h4
  ·exact i_FormatAct_8 A B w ht hc h3 h4
end Go.Proofs.YtlimlolciekimaaGreatDoor
