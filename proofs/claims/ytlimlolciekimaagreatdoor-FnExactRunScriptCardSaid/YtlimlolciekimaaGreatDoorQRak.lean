/- Contracts of the program's and the reference's functions (Fmt1, Fmt2). -/
import Derived.Handy
import Derived.Lib.Hide
import Derived.Test.YtlimlolciekimaaGreatDoorRows
import Derived.Test.YtlimlolciekimaaGreatDoorQRo
import Derived.Test.YtlimlolciekimaaGreatDoorQRa
import Derived.Test.YtlimlolciekimaaGreatDoorQRb
namespace Go.Proofs.YtlimlolciekimaaGreatDoor
set_option maxHeartbeats 1600000
open Go.ChangeShapes Go.WideShapes Go.ChangeAt Go.RowKit
set_option linter.unusedVariables false
set_option maxRecDepth 10000
abbrev Tab (w : World) : Prop := Lib.TabIs Tryz.prog w "internal/strconv.uint64pow10" .u64 Lib.pow10Tab
theorem ZkX (w:World) (k:Nat) (os:Array Obj):Below w.heap.size w (Go.Sort.grow (w.drewN k) os):=by
 refine ⟨rfl,rfl,rfl,by simp [Go.Sort.grow],fun i hi=>?_⟩
 show (w.heap++os)[i]?=w.heap[i]?
 exact Array.getElem?_append_left hi
theorem Tab.below {w w':World} (h:Tab w) (hb:Below w.heap.size w w'):Tab w':=by
 unfold Tab Lib.TabIs World.var? at h ⊢
 cases hg : Tryz.prog.globalNamed "internal/strconv.uint64pow10" with
 |none=>rw [hg] at h;cases h
 |some g =>
  rw [hg] at h
  have hlt:g<w.heap.size:=by
   by_cases h0:g<w.heap.size
   ·exact h0
   ·simp [Array.getElem?_eq_none (Nat.le_of_not_lt h0)] at h
  simp only [Option.bind_some] at h ⊢
  rw [hb.block g hlt]
  exact h
theorem ZaM (x:UInt8):(⟨#[x]⟩:ByteArray).size=1:=rfl
theorem Zpc (x:Int) (W:World) (h0:0≤x) (h1:x≤255) :
  (convert 22 9 (.slice (some ⟨W.heap.size,0,none⟩) 1 1)).run Tryz.prog (W.alloc (.cells #[.int .u8 x] 5))=.ok (.string ⟨#[x.toNat.toUInt8]⟩) (W.alloc (.cells #[.int .u8 x] 5)):=by
 have h:=run_convert_bytes_back (P:=Tryz.prog) (W.alloc (.cells #[.int .u8 x] 5)) 22 9 5 ⟨W.heap.size,0,none⟩ 1 [x.toNat.toUInt8] Tryz.underlying22 Tryz.underlying5 Tryz.underlying9
  (fun j hj=>by
   have:j=0:=by simp at hj;omega
   subst this
   show (W.alloc (.cells #[.int .u8 x] 5)).cell? ⟨W.heap.size,0,none⟩=_
   rw [World.cell?_alloc_mark]
   obtain ⟨X,rfl⟩:=Int.eq_ofNat_of_zero_le h0
   have hX:X<256:=by omega
   simp [Nat.mod_eq_of_lt hX])
 exact h
def Zan (n:Nat):ByteArray:=⟨(Lib.decDigits n).toArray⟩
theorem ZjL {n:Nat} (h:n<10):Zan n=⟨#[(48+n).toUInt8]⟩:=by
 unfold Zan;rw [Lib.decDigits,dif_pos h]
theorem Zl8 {n:Nat} (h:10≤n):Zan n=Zan (n / 10)++⟨#[(48+n % 10).toUInt8]⟩:=by
 apply ZbZ
 rw [ByteArray.data_append,Array.toList_append]
 show Lib.decDigits n=Lib.decDigits (n / 10)++_
 rw [Lib.decDigits,dif_neg (by omega)]
theorem Zkb (n:Nat):(⟨(Lib.itoa (n:Int)).toArray⟩:ByteArray)=Zan n:=by
 unfold Lib.itoa Zan
 rw [if_neg (by omega)]
 simp
theorem Zbe:∀ n:Nat,(Zan n).size≤n+1:=by
 intro n
 induction n using Nat.strongRecOn with
 |ind n ih =>
  by_cases h:n<10
  ·rw [ZjL h];show 1≤n+1;omega
  ·rw [Zl8 (by omega),ByteArray.size_append,ZaM]
   have:=ih (n / 10) (by omega)
   omega
theorem ZbS (n:Nat) (w:World) (hn:n≤1000000000) (ht:Tab w) :
  Calls Tryz.prog 26 #[.int .i64 n] w fun e w'=>e=.returned (.string (Zan n))∧Below w.heap.size w w':=by
 go_enter Tryz.func26,Tryz.ntmps26
 go_wp2_with fail
 refine (Tryz.strconv_Itoa n (by omega) (by omega) w ht).mono ?_
 rintro e w1 ⟨rfl,hk⟩
 have hb:Below w.heap.size w w1:=by
  obtain ⟨k,os,hk⟩:=hk
  rw [hk]
  exact ZkX w k os
 clear hk
 rw [Zkb]
 go_wp2
 go_ret
 exact ⟨rfl,hb⟩
theorem Zkm (x:Nat) (w:World) (hx:x<10):Calls Tryz.prog 96 #[.int .i64 x] w fun e w'=>e=.returned (.int .u8 (48+x))∧w'=w:=by
 go_enter Tryz.func96,Tryz.ntmps96
 go_wp2
 go_ret
 exact ⟨rfl,rfl⟩
theorem ZbJ (n:Nat) (w:World) (hn:n≤1000000000) :
  Calls Tryz.prog 48 #[.int .i64 n] w fun e w'=>e=.returned (.string (Zan n))∧Below w.heap.size w w':=by
 by_cases h0:n=0
 ·subst h0
  go_enter Tryz.func48,Tryz.ntmps48
  go_wp2
  go_ret
  exact ⟨Zfl (by rw [ZjL (by omega)];rfl),Below.refl _ _⟩
 ·have hn0:((n:Int)==0)=false:=by simp;omega
  have hn1:decide ((n:Int)<0)=false:=by simp
  go_enter Tryz.func48,Tryz.ntmps48
  go_wp2
  go_loopw [0,4] (fun m t wr=>∃ (q:Nat) (acc:ByteArray),m=.int .i64 q∧q≤n∧acc.size+q≤n+1∧t=.string acc∧Hid ((q=0∧acc=Zan n)∨(0<q∧Zan q++acc=Zan n))∧Below w.heap.size w wr) (fun m _ _=>(intOf m).toNat)
  case atStart=>exact ⟨n,_,rfl,Nat.le_refl _,by show 0+n≤n+1;omega,rfl,.inr ⟨by omega,by apply ZbZ;simp [ByteArray.data_append]⟩,Below.refl _ _⟩
  case round =>
   obtain ⟨q,acc,rfl,hq,hz,rfl,HD,hb⟩:=hrel
   have hbs:=hb.size
   by_cases h1:0<q
   ·have hcv:=Zpc (48+(q:Int) % 10) wr (by omega) (by omega)
    have hd:Zan q++acc=Zan n:=by rcases HD.out with h|h;omega;exact h.2
    have HN:=Lib.hid hd
    clear hd
    obtain ⟨r,hr⟩:∃ r:Nat,q % 10=r:=⟨_,rfl⟩
    have hr10:r<10:=by omega
    have hqr:(q:Int) % 10=r:=by omega
    have hcv:=Zpc (48+(r:Int)) wr (by omega) (by omega)
    have HZ:Hid ((({ data:=#[48+UInt8.ofNat r] }:ByteArray)++acc).size+q / 10≤n+1):=by
     unfold Hid;rw [ByteArray.size_append,ZaM];omega
    have HR:Hid ((q / 10=0∧(({ data:=#[48+UInt8.ofNat r] }:ByteArray)++acc)=Zan n)∨(0<q / 10∧Zan (q / 10)++(({ data:=#[48+UInt8.ofNat r] }:ByteArray)++acc)=Zan n)):=by
     have hd:=HN.out
     unfold Hid
     by_cases h10:10≤q
     ·refine .inr ⟨by omega,?_⟩
      rw [← hd,Zl8 h10,hr]
      apply ZbZ;simp [ByteArray.data_append]
     ·refine .inl ⟨by omega,?_⟩
      rw [← hd,ZjL (by omega)]
      have:r=q:=by omega
      subst this
      apply ZbZ;simp [ByteArray.data_append]
    go_wp2_with (go_at_call 96;refine (Zkm r _ hr10).mono ?_;rintro e w' ⟨rfl,rfl⟩)
    go_roundw
    case rel=>exact ⟨q / 10,_,by go_num,by omega,HZ.out,rfl,HR,bel⟩
    case measure=>simp [intOf];omega
   ·have hq0:q=0:=by omega
    subst hq0
    have HE:Hid (acc=Zan n):=by rcases HD.out with h|h;exact h.2;omega
    go_wp2
    go_ret
    exact ⟨Zfl HE.out,hb⟩
def ZaH:Nat→ByteArray
 |1=>⟨#[97,100,100]⟩
 |2=>⟨#[116,97,107,101]⟩
 |3=>⟨#[117,110,100,111]⟩
 |4=>⟨#[112,97,112,101,114]⟩
 |5=>⟨#[107,101,101,112]⟩
 |6=>⟨#[109,97,107,101]⟩
 |7=>⟨#[102,111,114,103,101,116]⟩
 |_=>⟨#[114,111,111,109]⟩
def ZeZ:Nat→Nat
 |1=>2
 |2=>2
 |4=>2
 |5=>1
 |6=>2
 |7=>1
 |_=>0
def Zey (k a b:Nat):ByteArray :=
 if ZeZ k=0 then ZaH k else if ZeZ k=1 then ZaH k++(⟨#[32]⟩++Zan a) else ZaH k++(⟨#[32]⟩++Zan a)++(⟨#[32]⟩++Zan b)
def Zcx (k a b:Int):ByteArray×Bool:=if ZaW k a b=true then (Zey k.toNat a.toNat b.toNat,true) else (⟨#[]⟩,false)
theorem ZiZ {k a b:Int} (h:ZaW k a b=false):Zcx k a b=(⟨#[]⟩,false):=by unfold Zcx;rw [h];rfl
theorem Zcq {k a b:Int} (h:ZaW k a b=true):(k=1∨k=2∨k=3∨k=4∨k=5∨k=6∨k=7∨k=8)∧∃ A B:Nat,a=A∧b=B∧A≤9∧B≤1000:=by
 have h2:(k=1∨k=2∨k=3∨k=4∨k=5∨k=6∨k=7∨k=8)∧0≤a∧0≤b∧a≤9∧b≤1000:=by
  unfold ZaW inB at h
  split at h <;> (try split at h) <;> (try split at h) <;> (try split at h) <;> simp_all <;> omega
 exact ⟨h2.1,a.toNat,b.toNat,by omega,by omega,by omega,by omega⟩
theorem Zhz {k:Int} {A B:Nat} (h:ZaW k A B=true):Zcx k A B=(Zey k.toNat A B,true):=by unfold Zcx;rw [h];simp
theorem ZjQ {a b:ByteArray} (h:a=b):Ending.returned (Value.tuple #[.string a,.bool true])=Ending.returned (Value.tuple #[.string b,.bool true]):=by rw [h]
theorem Zik (k a b:Int) (w:World) (hc:ZaW k a b=false) :
  Calls Tryz.prog 24 #[.agg #[.int .i64 k,.int .i64 a,.int .i64 b]] w fun e w'=>e=.returned (.tuple #[.string ⟨#[]⟩,.bool false])∧Below w.heap.size w w':=by
 have HC:=Lib.hid hc
 clear hc
 go_enter Tryz.func24,Tryz.ntmps24
 go_wp2_with (go_at_call 61;refine (Zdf _ _ _ _).mono ?_;rw [HC.out];rintro e w1 ⟨rfl,hb1⟩)
 go_ret2
 exact ⟨rfl,bel⟩
theorem Zdg (z:Int) (n:Nat) (hk:(z=1∧n=1)∨(z=2∧n=2)∨(z=4∧n=4)∨(z=6∧n=6)) (A B:Nat) (w:World) (ht:Tab w) (hc:ZaW z A B=true) (h3:A≤9) (h4:B≤1000) :
  Calls Tryz.prog 24 #[.agg #[.int .i64 z,.int .i64 A,.int .i64 B]] w fun e w'=>e=.returned (.tuple #[.string (Zey n A B),.bool true])∧Below w.heap.size w w':=by
 have hsA:=Zbe A
 have hsB:=Zbe B
 have ov1:¬9223372036854775807<(⟨#[32]⟩:ByteArray).size+(Zan A).size:=by rw [ZaM];omega
 have ov2:¬9223372036854775807<(⟨#[32]⟩:ByteArray).size+(Zan B).size:=by rw [ZaM];omega
 have hw6:(ZaH n).size≤6:=by rcases hk with ⟨_,rfl⟩|⟨_,rfl⟩|⟨_,rfl⟩|⟨_,rfl⟩<;>decide
 have ov3:¬9223372036854775807<(ZaH n).size+((⟨#[32]⟩:ByteArray)++Zan A).size:=by rw [ByteArray.size_append,ZaM];omega
 have ov4:¬9223372036854775807<(ZaH n++((⟨#[32]⟩:ByteArray)++Zan A)).size+((⟨#[32]⟩:ByteArray)++Zan B).size:=by rw [ByteArray.size_append,ByteArray.size_append,ByteArray.size_append,ZaM];omega
 clear hw6
 have HC:=Lib.hid hc
 clear hc
 go_enter Tryz.func24,Tryz.ntmps24
 go_wp2_with fail
 have hk0:=Zy w (.cells #[.int .i64 z,.int .i64 A,.int .i64 B] 61)
 have hb0:Below w.heap.size w (w.alloc (.cells #[.int .i64 z,.int .i64 A,.int .i64 B] 61)):=bel
 generalize (w.alloc (.cells #[.int .i64 z,.int .i64 A,.int .i64 B] 61))=w0 at *
 refine (Zdf _ _ _ _).mono ?_
 rw [HC.out]
 rintro e w1 ⟨rfl,hb1⟩
 have hk1:=Za hk0 hb1
 have hbw1:Below w.heap.size w w1:=hb0.trans (hb1.mono hb0.size)
 clear hk0 hb0 hb1
 rcases hk with ⟨rfl,rfl⟩|⟨rfl,rfl⟩|⟨rfl,rfl⟩|⟨rfl,rfl⟩
 all_goals
  simp only [ZaH] at ov3 ov4
  obtain ⟨hx0,hx1,hx2,hxl⟩:=Za8 hk1
  go_wp2_with (go_at_call 62;go_in)
  clear hx0 hx1 hx2 hxl
  refine (ZbS A w1 (by omega) (ht.below hbw1)).mono ?_
  rintro e w2 ⟨rfl,hb2⟩
  have hk2:=Za hk1 hb2
  have hbw2:Below w.heap.size w w2:=hbw1.trans (hb2.mono hbw1.size)
  obtain ⟨hx0,hx1,hx2,hxl⟩:=Za8 hk2
  go_wp2_with fail
  clear hx0 hx1 hx2 hxl
  refine (ZbS B w2 (by omega) (ht.below hbw2)).mono ?_
  rintro e w3 ⟨rfl,hb3⟩
  have hk3:=Za hk2 hb3
  have hbw3:Below w.heap.size w w3:=hbw2.trans (hb3.mono hbw2.size)
  obtain ⟨hx0,hx1,hx2,hxl⟩:=Za8 hk3
  go_wp2_with fail
  go_ret2
  exact ⟨by rfl,hbw3⟩
theorem ZiT (A B:Nat) (w:World) (ht:Tab w) (hc:ZaW 3 A B=true) (h3:A≤9) (h4:B≤1000) :
  Calls Tryz.prog 24 #[.agg #[.int .i64 3,.int .i64 A,.int .i64 B]] w fun e w'=>e=.returned (.tuple #[.string (Zey 3 A B),.bool true])∧Below w.heap.size w w':=by
 have hsA:=Zbe A
 have hsB:=Zbe B
 have ov1:¬9223372036854775807<(⟨#[32]⟩:ByteArray).size+(Zan A).size:=by rw [ZaM];omega
 have ov2:¬9223372036854775807<(⟨#[32]⟩:ByteArray).size+(Zan B).size:=by rw [ZaM];omega
 have hw6:(ZaH 3).size≤6:=by decide
 have ov3:¬9223372036854775807<(ZaH 3).size+((⟨#[32]⟩:ByteArray)++Zan A).size:=by rw [ByteArray.size_append,ZaM];omega
 have ov4:¬9223372036854775807<(ZaH 3++((⟨#[32]⟩:ByteArray)++Zan A)).size+((⟨#[32]⟩:ByteArray)++Zan B).size:=by rw [ByteArray.size_append,ByteArray.size_append,ByteArray.size_append,ZaM];omega
 clear hw6
 simp only [ZaH] at ov3 ov4
 have HC:=Lib.hid hc
 clear hc
 go_enter Tryz.func24,Tryz.ntmps24
 go_wp2_with fail
 have hk0:=Zy w (.cells #[.int .i64 3,.int .i64 A,.int .i64 B] 61)
 have hb0:Below w.heap.size w (w.alloc (.cells #[.int .i64 3,.int .i64 A,.int .i64 B] 61)):=bel
 generalize (w.alloc (.cells #[.int .i64 3,.int .i64 A,.int .i64 B] 61))=w0 at *
 refine (Zdf _ _ _ _).mono ?_
 rw [HC.out]
 rintro e w1 ⟨rfl,hb1⟩
 have hk1:=Za hk0 hb1
 have hbw1:Below w.heap.size w w1:=hb0.trans (hb1.mono hb0.size)
 clear hk0 hb0 hb1
 obtain ⟨hx0,hx1,hx2,hxl⟩:=Za8 hk1
 go_wp2_with (go_at_call 62;go_in)
 go_ret2
 exact ⟨by rfl,hbw1⟩
theorem ZiG (A B:Nat) (w:World) (ht:Tab w) (hc:ZaW 5 A B=true) (h3:A≤9) (h4:B≤1000) :
  Calls Tryz.prog 24 #[.agg #[.int .i64 5,.int .i64 A,.int .i64 B]] w fun e w'=>e=.returned (.tuple #[.string (Zey 5 A B),.bool true])∧Below w.heap.size w w':=by
 have hsA:=Zbe A
 have hsB:=Zbe B
 have ov1:¬9223372036854775807<(⟨#[32]⟩:ByteArray).size+(Zan A).size:=by rw [ZaM];omega
 have ov2:¬9223372036854775807<(⟨#[32]⟩:ByteArray).size+(Zan B).size:=by rw [ZaM];omega
 have hw6:(ZaH 5).size≤6:=by decide
 have ov3:¬9223372036854775807<(ZaH 5).size+((⟨#[32]⟩:ByteArray)++Zan A).size:=by rw [ByteArray.size_append,ZaM];omega
 have ov4:¬9223372036854775807<(ZaH 5++((⟨#[32]⟩:ByteArray)++Zan A)).size+((⟨#[32]⟩:ByteArray)++Zan B).size:=by rw [ByteArray.size_append,ByteArray.size_append,ByteArray.size_append,ZaM];omega
 clear hw6
 simp only [ZaH] at ov3 ov4
 have HC:=Lib.hid hc
 clear hc
 go_enter Tryz.func24,Tryz.ntmps24
 go_wp2_with fail
 have hk0:=Zy w (.cells #[.int .i64 5,.int .i64 A,.int .i64 B] 61)
 have hb0:Below w.heap.size w (w.alloc (.cells #[.int .i64 5,.int .i64 A,.int .i64 B] 61)):=bel
 generalize (w.alloc (.cells #[.int .i64 5,.int .i64 A,.int .i64 B] 61))=w0 at *
 refine (Zdf _ _ _ _).mono ?_
 rw [HC.out]
 rintro e w1 ⟨rfl,hb1⟩
 have hk1:=Za hk0 hb1
 have hbw1:Below w.heap.size w w1:=hb0.trans (hb1.mono hb0.size)
 clear hk0 hb0 hb1
 obtain ⟨hx0,hx1,hx2,hxl⟩:=Za8 hk1
 go_wp2_with (go_at_call 62;go_in)
 clear hx0 hx1 hx2 hxl
 refine (ZbS A w1 (by omega) (ht.below hbw1)).mono ?_
 rintro e w2 ⟨rfl,hb2⟩
 have hk2:=Za hk1 hb2
 have hbw2:Below w.heap.size w w2:=hbw1.trans (hb2.mono hbw1.size)
 obtain ⟨hx0,hx1,hx2,hxl⟩:=Za8 hk2
 go_wp2_with fail
 go_ret2
 exact ⟨by rfl,hbw2⟩
theorem ZiE (A B:Nat) (w:World) (ht:Tab w) (hc:ZaW 7 A B=true) (h3:A≤9) (h4:B≤1000) :
  Calls Tryz.prog 24 #[.agg #[.int .i64 7,.int .i64 A,.int .i64 B]] w fun e w'=>e=.returned (.tuple #[.string (Zey 7 A B),.bool true])∧Below w.heap.size w w':=by
 have hsA:=Zbe A
 have hsB:=Zbe B
 have ov1:¬9223372036854775807<(⟨#[32]⟩:ByteArray).size+(Zan A).size:=by rw [ZaM];omega
 have ov2:¬9223372036854775807<(⟨#[32]⟩:ByteArray).size+(Zan B).size:=by rw [ZaM];omega
 have hw6:(ZaH 7).size≤6:=by decide
 have ov3:¬9223372036854775807<(ZaH 7).size+((⟨#[32]⟩:ByteArray)++Zan A).size:=by rw [ByteArray.size_append,ZaM];omega
 have ov4:¬9223372036854775807<(ZaH 7++((⟨#[32]⟩:ByteArray)++Zan A)).size+((⟨#[32]⟩:ByteArray)++Zan B).size:=by rw [ByteArray.size_append,ByteArray.size_append,ByteArray.size_append,ZaM];omega
 clear hw6
 simp only [ZaH] at ov3 ov4
 have HC:=Lib.hid hc
 clear hc
 go_enter Tryz.func24,Tryz.ntmps24
 go_wp2_with fail
 have hk0:=Zy w (.cells #[.int .i64 7,.int .i64 A,.int .i64 B] 61)
 have hb0:Below w.heap.size w (w.alloc (.cells #[.int .i64 7,.int .i64 A,.int .i64 B] 61)):=bel
 generalize (w.alloc (.cells #[.int .i64 7,.int .i64 A,.int .i64 B] 61))=w0 at *
 refine (Zdf _ _ _ _).mono ?_
 rw [HC.out]
 rintro e w1 ⟨rfl,hb1⟩
 have hk1:=Za hk0 hb1
 have hbw1:Below w.heap.size w w1:=hb0.trans (hb1.mono hb0.size)
 clear hk0 hb0 hb1
 obtain ⟨hx0,hx1,hx2,hxl⟩:=Za8 hk1
 go_wp2_with (go_at_call 62;go_in)
 clear hx0 hx1 hx2 hxl
 refine (ZbS A w1 (by omega) (ht.below hbw1)).mono ?_
 rintro e w2 ⟨rfl,hb2⟩
 have hk2:=Za hk1 hb2
 have hbw2:Below w.heap.size w w2:=hbw1.trans (hb2.mono hbw1.size)
 obtain ⟨hx0,hx1,hx2,hxl⟩:=Za8 hk2
 go_wp2_with fail
 go_ret2
 exact ⟨by rfl,hbw2⟩
theorem ZiL (A B:Nat) (w:World) (ht:Tab w) (hc:ZaW 8 A B=true) (h3:A≤9) (h4:B≤1000) :
  Calls Tryz.prog 24 #[.agg #[.int .i64 8,.int .i64 A,.int .i64 B]] w fun e w'=>e=.returned (.tuple #[.string (Zey 8 A B),.bool true])∧Below w.heap.size w w':=by
 have hsA:=Zbe A
 have hsB:=Zbe B
 have ov1:¬9223372036854775807<(⟨#[32]⟩:ByteArray).size+(Zan A).size:=by rw [ZaM];omega
 have ov2:¬9223372036854775807<(⟨#[32]⟩:ByteArray).size+(Zan B).size:=by rw [ZaM];omega
 have hw6:(ZaH 8).size≤6:=by decide
 have ov3:¬9223372036854775807<(ZaH 8).size+((⟨#[32]⟩:ByteArray)++Zan A).size:=by rw [ByteArray.size_append,ZaM];omega
 have ov4:¬9223372036854775807<(ZaH 8++((⟨#[32]⟩:ByteArray)++Zan A)).size+((⟨#[32]⟩:ByteArray)++Zan B).size:=by rw [ByteArray.size_append,ByteArray.size_append,ByteArray.size_append,ZaM];omega
 clear hw6
 simp only [ZaH] at ov3 ov4
 have HC:=Lib.hid hc
 clear hc
 go_enter Tryz.func24,Tryz.ntmps24
 go_wp2_with fail
 have hk0:=Zy w (.cells #[.int .i64 8,.int .i64 A,.int .i64 B] 61)
 have hb0:Below w.heap.size w (w.alloc (.cells #[.int .i64 8,.int .i64 A,.int .i64 B] 61)):=bel
 generalize (w.alloc (.cells #[.int .i64 8,.int .i64 A,.int .i64 B] 61))=w0 at *
 refine (Zdf _ _ _ _).mono ?_
 rw [HC.out]
 rintro e w1 ⟨rfl,hb1⟩
 have hk1:=Za hk0 hb1
 have hbw1:Below w.heap.size w w1:=hb0.trans (hb1.mono hb0.size)
 clear hk0 hb0 hb1
 obtain ⟨hx0,hx1,hx2,hxl⟩:=Za8 hk1
 go_wp2_with (go_at_call 62;go_in)
 go_ret2
 exact ⟨by rfl,hbw1⟩
theorem Zkx (k a b:Int) (w:World) (ht:Tab w) :
  Calls Tryz.prog 24 #[.agg #[.int .i64 k,.int .i64 a,.int .i64 b]] w fun e w'=>e=.returned (.tuple #[.string (Zcx k a b).1,.bool (Zcx k a b).2])∧Below w.heap.size w w':=by
 cases hc:ZaW k a b
 ·rw [ZiZ hc];exact Zik k a b w hc
 ·obtain ⟨hk,A,B,rfl,rfl,h3,h4⟩:=Zcq hc
  rw [Zhz hc]
  rcases hk with rfl|rfl|rfl|rfl|rfl|rfl|rfl|rfl
  ·exact Zdg 1 1 (by simp) A B w ht hc h3 h4
  ·exact Zdg 2 2 (by simp) A B w ht hc h3 h4
  ·exact ZiT A B w ht hc h3 h4
  ·exact Zdg 4 4 (by simp) A B w ht hc h3 h4
  ·exact ZiG A B w ht hc h3 h4
  ·exact Zdg 6 6 (by simp) A B w ht hc h3 h4
  ·exact ZiE A B w ht hc h3 h4
  ·exact ZiL A B w ht hc h3 h4
theorem ZhM (k a b:Int) (w:World) (hc:ZaW k a b=false) :
  Calls Tryz.prog 124 #[.agg #[.int .i64 k,.int .i64 a,.int .i64 b]] w fun e w'=>e=.returned (.tuple #[.string ⟨#[]⟩,.bool false])∧Below w.heap.size w w':=by
 have HC:=Lib.hid hc
 clear hc
 go_enter Tryz.func124,Tryz.ntmps124
 go_wp2_with (go_at_call 171;refine (Zdi _ _ _ _).mono ?_;rw [HC.out];rintro e w1 ⟨rfl,hb1⟩)
 go_ret2
 exact ⟨rfl,bel⟩
theorem Zdd (z:Int) (n:Nat) (hk:(z=1∧n=1)∨(z=2∧n=2)∨(z=4∧n=4)∨(z=6∧n=6)) (A B:Nat) (w:World) (hc:ZaW z A B=true) (h3:A≤9) (h4:B≤1000) :
  Calls Tryz.prog 124 #[.agg #[.int .i64 z,.int .i64 A,.int .i64 B]] w fun e w'=>e=.returned (.tuple #[.string (Zey n A B),.bool true])∧Below w.heap.size w w':=by
 have hsA:=Zbe A
 have hsB:=Zbe B
 have hw6:(ZaH n).size≤6:=by rcases hk with ⟨_,rfl⟩|⟨_,rfl⟩|⟨_,rfl⟩|⟨_,rfl⟩<;>decide
 have ov1:¬9223372036854775807<(ZaH n).size+(⟨#[32]⟩:ByteArray).size:=by rw [ZaM];omega
 have ov2:¬9223372036854775807<(ZaH n++(⟨#[32]⟩:ByteArray)).size+(Zan A).size:=by rw [ByteArray.size_append,ZaM];omega
 have ov3:¬9223372036854775807<(ZaH n++(⟨#[32]⟩:ByteArray)++Zan A).size+(⟨#[32]⟩:ByteArray).size:=by rw [ByteArray.size_append,ByteArray.size_append,ZaM];omega
 have ov4:¬9223372036854775807<(ZaH n++(⟨#[32]⟩:ByteArray)++Zan A++(⟨#[32]⟩:ByteArray)).size+(Zan B).size:=by rw [ByteArray.size_append,ByteArray.size_append,ByteArray.size_append,ZaM];omega
 clear hw6
 have HC:=Lib.hid hc
 clear hc
 go_enter Tryz.func124,Tryz.ntmps124
 go_wp2_with fail
 have hk0:=Zy w (.cells #[.int .i64 z,.int .i64 A,.int .i64 B] 61)
 have hb0:Below w.heap.size w (w.alloc (.cells #[.int .i64 z,.int .i64 A,.int .i64 B] 61)):=bel
 generalize (w.alloc (.cells #[.int .i64 z,.int .i64 A,.int .i64 B] 61))=w0 at *
 refine (Zdi _ _ _ _).mono ?_
 rw [HC.out]
 rintro e w1 ⟨rfl,hb1⟩
 have hk1:=Za hk0 hb1
 have hbw1:Below w.heap.size w w1:=hb0.trans (hb1.mono hb0.size)
 clear hk0 hb0 hb1
 rcases hk with ⟨rfl,rfl⟩|⟨rfl,rfl⟩|⟨rfl,rfl⟩|⟨rfl,rfl⟩
 all_goals
  simp only [ZaH] at ov1 ov2 ov3 ov4
  obtain ⟨hx0,hx1,hx2,hxl⟩:=Za8 hk1
  go_wp2
  generalize hW:World.alloc _ _=w2
  have hk2:w2.heap[w1.heap.size+1+1]?=some (.cells #[.int .i64 A,.int .i64 B] 3 (0,0)):=by
   rw [← hW]
   have h:=Zy ((w1.alloc (.cells #[.string ⟨#[]⟩,.string ⟨#[97,100,100]⟩,.string ⟨#[116,97,107,101]⟩,.string ⟨#[117,110,100,111]⟩,.string ⟨#[112,97,112,101,114]⟩,.string ⟨#[107,101,101,112]⟩,.string ⟨#[109,97,107,101]⟩,.string ⟨#[102,111,114,103,101,116]⟩,.string ⟨#[114,111,111,109]⟩] 9)).alloc (.cells #[.int .i64 0,.int .i64 2,.int .i64 2,.int .i64 0,.int .i64 2,.int .i64 1,.int .i64 2,.int .i64 1,.int .i64 0] 3)) (.cells #[.int .i64 A,.int .i64 B] 3)
   simpa using h
  have hbw2:Below w.heap.size w w2:=by rw [← hW];exact bel
  clear hW hx0 hx1 hx2 hxl hk1 hbw1
  have hc0:=(Zc hk2 0).1
  have hc1:=(Zc hk2 1).1
  refine wp_loop_rounds 3 ?_
  rw [rounds_succ]
  go_wp2_with fail
  clear hc0 hc1
  refine (ZbJ A w2 (by omega)).mono ?_
  rintro e w3 ⟨rfl,hb3⟩
  have hk3:=Za hk2 hb3
  have hbw3:Below w.heap.size w w3:=hbw2.trans (hb3.mono hbw2.size)
  have hc0:=(Zc hk3 0).1
  have hc1:=(Zc hk3 1).1
  go_wp2
  rw [rounds_succ]
  go_wp2_with fail
  clear hc0 hc1
  refine (ZbJ B w3 (by omega)).mono ?_
  rintro e w4 ⟨rfl,hb4⟩
  have hk4:=Za hk3 hb4
  have hbw4:Below w.heap.size w w4:=hbw3.trans (hb4.mono hbw3.size)
  have hc0:=(Zc hk4 0).1
  have hc1:=(Zc hk4 1).1
  go_wp2
  rw [rounds_succ]
  go_wp2_with fail
  go_ret2
  exact ⟨ZjQ (by apply ZbZ;simp [Zey,ZeZ,ZaH,ByteArray.data_append]),hbw4⟩
theorem ZiV (A B:Nat) (w:World) (hc:ZaW 3 A B=true) (h3:A≤9) (h4:B≤1000) :
  Calls Tryz.prog 124 #[.agg #[.int .i64 3,.int .i64 A,.int .i64 B]] w fun e w'=>e=.returned (.tuple #[.string (Zey 3 A B),.bool true])∧Below w.heap.size w w':=by
 have hsA:=Zbe A
 have hsB:=Zbe B
 have hw6:(ZaH 3).size≤6:=by decide
 have ov1:¬9223372036854775807<(ZaH 3).size+(⟨#[32]⟩:ByteArray).size:=by rw [ZaM];omega
 have ov2:¬9223372036854775807<(ZaH 3++(⟨#[32]⟩:ByteArray)).size+(Zan A).size:=by rw [ByteArray.size_append,ZaM];omega
 have ov3:¬9223372036854775807<(ZaH 3++(⟨#[32]⟩:ByteArray)++Zan A).size+(⟨#[32]⟩:ByteArray).size:=by rw [ByteArray.size_append,ByteArray.size_append,ZaM];omega
 have ov4:¬9223372036854775807<(ZaH 3++(⟨#[32]⟩:ByteArray)++Zan A++(⟨#[32]⟩:ByteArray)).size+(Zan B).size:=by rw [ByteArray.size_append,ByteArray.size_append,ByteArray.size_append,ZaM];omega
 clear hw6
 simp only [ZaH] at ov1 ov2 ov3 ov4
 have HC:=Lib.hid hc
 clear hc
 go_enter Tryz.func124,Tryz.ntmps124
 go_wp2_with fail
 have hk0:=Zy w (.cells #[.int .i64 3,.int .i64 A,.int .i64 B] 61)
 have hb0:Below w.heap.size w (w.alloc (.cells #[.int .i64 3,.int .i64 A,.int .i64 B] 61)):=bel
 generalize (w.alloc (.cells #[.int .i64 3,.int .i64 A,.int .i64 B] 61))=w0 at *
 refine (Zdi _ _ _ _).mono ?_
 rw [HC.out]
 rintro e w1 ⟨rfl,hb1⟩
 have hk1:=Za hk0 hb1
 have hbw1:Below w.heap.size w w1:=hb0.trans (hb1.mono hb0.size)
 clear hk0 hb0 hb1
 obtain ⟨hx0,hx1,hx2,hxl⟩:=Za8 hk1
 go_wp2
 go_rounds 1
 go_ret2
 exact ⟨by rfl,bel⟩
theorem ZiM (A B:Nat) (w:World) (hc:ZaW 5 A B=true) (h3:A≤9) (h4:B≤1000) :
  Calls Tryz.prog 124 #[.agg #[.int .i64 5,.int .i64 A,.int .i64 B]] w fun e w'=>e=.returned (.tuple #[.string (Zey 5 A B),.bool true])∧Below w.heap.size w w':=by
 have hsA:=Zbe A
 have hsB:=Zbe B
 have hw6:(ZaH 5).size≤6:=by decide
 have ov1:¬9223372036854775807<(ZaH 5).size+(⟨#[32]⟩:ByteArray).size:=by rw [ZaM];omega
 have ov2:¬9223372036854775807<(ZaH 5++(⟨#[32]⟩:ByteArray)).size+(Zan A).size:=by rw [ByteArray.size_append,ZaM];omega
 have ov3:¬9223372036854775807<(ZaH 5++(⟨#[32]⟩:ByteArray)++Zan A).size+(⟨#[32]⟩:ByteArray).size:=by rw [ByteArray.size_append,ByteArray.size_append,ZaM];omega
 have ov4:¬9223372036854775807<(ZaH 5++(⟨#[32]⟩:ByteArray)++Zan A++(⟨#[32]⟩:ByteArray)).size+(Zan B).size:=by rw [ByteArray.size_append,ByteArray.size_append,ByteArray.size_append,ZaM];omega
 clear hw6
 simp only [ZaH] at ov1 ov2 ov3 ov4
 have HC:=Lib.hid hc
 clear hc
 go_enter Tryz.func124,Tryz.ntmps124
 go_wp2_with fail
 have hk0:=Zy w (.cells #[.int .i64 5,.int .i64 A,.int .i64 B] 61)
 have hb0:Below w.heap.size w (w.alloc (.cells #[.int .i64 5,.int .i64 A,.int .i64 B] 61)):=bel
 generalize (w.alloc (.cells #[.int .i64 5,.int .i64 A,.int .i64 B] 61))=w0 at *
 refine (Zdi _ _ _ _).mono ?_
 rw [HC.out]
 rintro e w1 ⟨rfl,hb1⟩
 have hk1:=Za hk0 hb1
 have hbw1:Below w.heap.size w w1:=hb0.trans (hb1.mono hb0.size)
 clear hk0 hb0 hb1
 obtain ⟨hx0,hx1,hx2,hxl⟩:=Za8 hk1
 go_wp2
 generalize hW:World.alloc _ _=w2
 have hk2:w2.heap[w1.heap.size+1+1]?=some (.cells #[.int .i64 A,.int .i64 B] 3 (0,0)):=by
  rw [← hW]
  have h:=Zy ((w1.alloc (.cells #[.string ⟨#[]⟩,.string ⟨#[97,100,100]⟩,.string ⟨#[116,97,107,101]⟩,.string ⟨#[117,110,100,111]⟩,.string ⟨#[112,97,112,101,114]⟩,.string ⟨#[107,101,101,112]⟩,.string ⟨#[109,97,107,101]⟩,.string ⟨#[102,111,114,103,101,116]⟩,.string ⟨#[114,111,111,109]⟩] 9)).alloc (.cells #[.int .i64 0,.int .i64 2,.int .i64 2,.int .i64 0,.int .i64 2,.int .i64 1,.int .i64 2,.int .i64 1,.int .i64 0] 3)) (.cells #[.int .i64 A,.int .i64 B] 3)
  simpa using h
 have hbw2:Below w.heap.size w w2:=by rw [← hW];exact bel
 clear hW hx0 hx1 hx2 hxl hk1 hbw1
 have hc0:=(Zc hk2 0).1
 have hc1:=(Zc hk2 1).1
 refine wp_loop_rounds 2 ?_
 rw [rounds_succ]
 go_wp2_with fail
 clear hc0 hc1
 refine (ZbJ A w2 (by omega)).mono ?_
 rintro e w3 ⟨rfl,hb3⟩
 have hk3:=Za hk2 hb3
 have hbw3:Below w.heap.size w w3:=hbw2.trans (hb3.mono hbw2.size)
 have hc0:=(Zc hk3 0).1
 have hc1:=(Zc hk3 1).1
 go_wp2
 rw [rounds_succ]
 go_wp2_with fail
 go_ret2
 exact ⟨ZjQ (by apply ZbZ;simp [Zey,ZeZ,ZaH,ByteArray.data_append]),hbw3⟩
theorem ZiH (A B:Nat) (w:World) (hc:ZaW 7 A B=true) (h3:A≤9) (h4:B≤1000) :
  Calls Tryz.prog 124 #[.agg #[.int .i64 7,.int .i64 A,.int .i64 B]] w fun e w'=>e=.returned (.tuple #[.string (Zey 7 A B),.bool true])∧Below w.heap.size w w':=by
 have hsA:=Zbe A
 have hsB:=Zbe B
 have hw6:(ZaH 7).size≤6:=by decide
 have ov1:¬9223372036854775807<(ZaH 7).size+(⟨#[32]⟩:ByteArray).size:=by rw [ZaM];omega
 have ov2:¬9223372036854775807<(ZaH 7++(⟨#[32]⟩:ByteArray)).size+(Zan A).size:=by rw [ByteArray.size_append,ZaM];omega
 have ov3:¬9223372036854775807<(ZaH 7++(⟨#[32]⟩:ByteArray)++Zan A).size+(⟨#[32]⟩:ByteArray).size:=by rw [ByteArray.size_append,ByteArray.size_append,ZaM];omega
 have ov4:¬9223372036854775807<(ZaH 7++(⟨#[32]⟩:ByteArray)++Zan A++(⟨#[32]⟩:ByteArray)).size+(Zan B).size:=by rw [ByteArray.size_append,ByteArray.size_append,ByteArray.size_append,ZaM];omega
 clear hw6
 simp only [ZaH] at ov1 ov2 ov3 ov4
 have HC:=Lib.hid hc
 clear hc
 go_enter Tryz.func124,Tryz.ntmps124
 go_wp2_with fail
 have hk0:=Zy w (.cells #[.int .i64 7,.int .i64 A,.int .i64 B] 61)
 have hb0:Below w.heap.size w (w.alloc (.cells #[.int .i64 7,.int .i64 A,.int .i64 B] 61)):=bel
 generalize (w.alloc (.cells #[.int .i64 7,.int .i64 A,.int .i64 B] 61))=w0 at *
 refine (Zdi _ _ _ _).mono ?_
 rw [HC.out]
 rintro e w1 ⟨rfl,hb1⟩
 have hk1:=Za hk0 hb1
 have hbw1:Below w.heap.size w w1:=hb0.trans (hb1.mono hb0.size)
 clear hk0 hb0 hb1
 obtain ⟨hx0,hx1,hx2,hxl⟩:=Za8 hk1
 go_wp2
 generalize hW:World.alloc _ _=w2
 have hk2:w2.heap[w1.heap.size+1+1]?=some (.cells #[.int .i64 A,.int .i64 B] 3 (0,0)):=by
  rw [← hW]
  have h:=Zy ((w1.alloc (.cells #[.string ⟨#[]⟩,.string ⟨#[97,100,100]⟩,.string ⟨#[116,97,107,101]⟩,.string ⟨#[117,110,100,111]⟩,.string ⟨#[112,97,112,101,114]⟩,.string ⟨#[107,101,101,112]⟩,.string ⟨#[109,97,107,101]⟩,.string ⟨#[102,111,114,103,101,116]⟩,.string ⟨#[114,111,111,109]⟩] 9)).alloc (.cells #[.int .i64 0,.int .i64 2,.int .i64 2,.int .i64 0,.int .i64 2,.int .i64 1,.int .i64 2,.int .i64 1,.int .i64 0] 3)) (.cells #[.int .i64 A,.int .i64 B] 3)
  simpa using h
 have hbw2:Below w.heap.size w w2:=by rw [← hW];exact bel
 clear hW hx0 hx1 hx2 hxl hk1 hbw1
 have hc0:=(Zc hk2 0).1
 have hc1:=(Zc hk2 1).1
 refine wp_loop_rounds 2 ?_
 rw [rounds_succ]
 go_wp2_with fail
 clear hc0 hc1
 refine (ZbJ A w2 (by omega)).mono ?_
 rintro e w3 ⟨rfl,hb3⟩
 have hk3:=Za hk2 hb3
 have hbw3:Below w.heap.size w w3:=hbw2.trans (hb3.mono hbw2.size)
 have hc0:=(Zc hk3 0).1
 have hc1:=(Zc hk3 1).1
 go_wp2
 rw [rounds_succ]
 go_wp2_with fail
 go_ret2
 exact ⟨ZjQ (by apply ZbZ;simp [Zey,ZeZ,ZaH,ByteArray.data_append]),hbw3⟩
theorem ZiJ (A B:Nat) (w:World) (hc:ZaW 8 A B=true) (h3:A≤9) (h4:B≤1000) :
  Calls Tryz.prog 124 #[.agg #[.int .i64 8,.int .i64 A,.int .i64 B]] w fun e w'=>e=.returned (.tuple #[.string (Zey 8 A B),.bool true])∧Below w.heap.size w w':=by
 have hsA:=Zbe A
 have hsB:=Zbe B
 have hw6:(ZaH 8).size≤6:=by decide
 have ov1:¬9223372036854775807<(ZaH 8).size+(⟨#[32]⟩:ByteArray).size:=by rw [ZaM];omega
 have ov2:¬9223372036854775807<(ZaH 8++(⟨#[32]⟩:ByteArray)).size+(Zan A).size:=by rw [ByteArray.size_append,ZaM];omega
 have ov3:¬9223372036854775807<(ZaH 8++(⟨#[32]⟩:ByteArray)++Zan A).size+(⟨#[32]⟩:ByteArray).size:=by rw [ByteArray.size_append,ByteArray.size_append,ZaM];omega
 have ov4:¬9223372036854775807<(ZaH 8++(⟨#[32]⟩:ByteArray)++Zan A++(⟨#[32]⟩:ByteArray)).size+(Zan B).size:=by rw [ByteArray.size_append,ByteArray.size_append,ByteArray.size_append,ZaM];omega
 clear hw6
 simp only [ZaH] at ov1 ov2 ov3 ov4
 have HC:=Lib.hid hc
 clear hc
 go_enter Tryz.func124,Tryz.ntmps124
 go_wp2_with fail
 have hk0:=Zy w (.cells #[.int .i64 8,.int .i64 A,.int .i64 B] 61)
 have hb0:Below w.heap.size w (w.alloc (.cells #[.int .i64 8,.int .i64 A,.int .i64 B] 61)):=bel
 generalize (w.alloc (.cells #[.int .i64 8,.int .i64 A,.int .i64 B] 61))=w0 at *
 refine (Zdi _ _ _ _).mono ?_
 rw [HC.out]
 rintro e w1 ⟨rfl,hb1⟩
 have hk1:=Za hk0 hb1
 have hbw1:Below w.heap.size w w1:=hb0.trans (hb1.mono hb0.size)
 clear hk0 hb0 hb1
 obtain ⟨hx0,hx1,hx2,hxl⟩:=Za8 hk1
 go_wp2
 go_rounds 1
 go_ret2
 exact ⟨by rfl,bel⟩
theorem Zkp (k a b:Int) (w:World) :
  Calls Tryz.prog 124 #[.agg #[.int .i64 k,.int .i64 a,.int .i64 b]] w fun e w'=>e=.returned (.tuple #[.string (Zcx k a b).1,.bool (Zcx k a b).2])∧Below w.heap.size w w':=by
 cases hc:ZaW k a b
 ·rw [ZiZ hc];exact ZhM k a b w hc
 ·obtain ⟨hk,A,B,rfl,rfl,h3,h4⟩:=Zcq hc
  rw [Zhz hc]
  rcases hk with rfl|rfl|rfl|rfl|rfl|rfl|rfl|rfl
  ·exact Zdd 1 1 (by simp) A B w hc h3 h4
  ·exact Zdd 2 2 (by simp) A B w hc h3 h4
  ·exact ZiV A B w hc h3 h4
  ·exact Zdd 4 4 (by simp) A B w hc h3 h4
  ·exact ZiM A B w hc h3 h4
  ·exact Zdd 6 6 (by simp) A B w hc h3 h4
  ·exact ZiH A B w hc h3 h4
  ·exact ZiJ A B w hc h3 h4
end Go.Proofs.YtlimlolciekimaaGreatDoor
