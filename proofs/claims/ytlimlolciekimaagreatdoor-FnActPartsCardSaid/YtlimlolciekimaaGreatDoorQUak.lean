/- Contracts of the program's and the reference's functions (Fmt1, Fmt2). -/
import Derived.Handy
import Derived.Lib.Hide
import Derived.Test.YtlimlolciekimaaGreatDoorRows
import Derived.Test.YtlimlolciekimaaGreatDoorQUo
import Derived.Test.YtlimlolciekimaaGreatDoorQUa
import Derived.Test.YtlimlolciekimaaGreatDoorQUb
namespace Go.Proofs.YtlimlolciekimaaGreatDoor
set_option maxHeartbeats 1600000
open Go.ChangeShapes Go.WideShapes Go.ChangeAt Go.RowKit
set_option linter.unusedVariables false
set_option maxRecDepth 10000
abbrev Tab (w : World) : Prop := Lib.TabIs Tryz.prog w "internal/strconv.uint64pow10" .u64 Lib.pow10Tab
theorem tab_grow (w:World) (k:Nat) (os:Array Obj):Below w.heap.size w (Go.Sort.grow (w.drewN k) os):=by
 refine ⟨rfl,rfl,rfl,by simp [Go.Sort.grow],fun i hi=>?_⟩
 show (w.heap++os)[i]?=w.heap[i]?
 exact Array.getElem?_append_left hi
theorem Tab.below {w w':World} (h:Tab w) (hb:Below w.heap.size w w'):Tab w':=by
 unfold Tab Lib.TabIs World.var? at h ⊢
 cases hg : Tryz.prog.globalNamed "internal/strconv.uint64pow10" with
 |none=>rw [hg] at h;cases h
 |some g =>
  rw [hg] at h
  have hlt:g<w.heap.size:=by
   by_cases h0:g<w.heap.size
   ·exact h0
   ·simp [Array.getElem?_eq_none (Nat.le_of_not_lt h0)] at h
  simp only [Option.bind_some] at h ⊢
  rw [hb.block g hlt]
  exact h
theorem size1 (x:UInt8):(⟨#[x]⟩:ByteArray).size=1:=rfl
def numT (n:Nat):ByteArray:=⟨(Lib.decDigits n).toArray⟩
theorem itoa_nat (n:Nat):(⟨(Lib.itoa (n:Int)).toArray⟩:ByteArray)=numT n:=by
 unfold Lib.itoa numT
 rw [if_neg (by omega)]
 simp
theorem i_FormatInt (n:Nat) (w:World) (hn:n≤1000000000) (ht:Tab w) :
  Calls Tryz.prog 26 #[.int .i64 n] w fun e w'=>e=.returned (.string (numT n))∧Below w.heap.size w w':=by
 go_enter Tryz.func26,Tryz.ntmps26
 go_wp2_with fail
 refine (Tryz.strconv_Itoa n (by omega) (by omega) w ht).mono ?_
 rintro e w1 ⟨rfl,hk⟩
 have hb:Below w.heap.size w w1:=by
  obtain ⟨k,os,hk⟩:=hk
  rw [hk]
  exact tab_grow w k os
 clear hk
 rw [itoa_nat]
 go_wp2
 go_ret
 exact ⟨rfl,hb⟩
def wordT:Nat→ByteArray
 |1=>⟨#[97,100,100]⟩
 |2=>⟨#[116,97,107,101]⟩
 |3=>⟨#[117,110,100,111]⟩
 |4=>⟨#[112,97,112,101,114]⟩
 |5=>⟨#[107,101,101,112]⟩
 |6=>⟨#[109,97,107,101]⟩
 |7=>⟨#[102,111,114,103,101,116]⟩
 |_=>⟨#[114,111,111,109]⟩
def wordN:Nat→Nat
 |1=>2
 |2=>2
 |4=>2
 |5=>1
 |6=>2
 |7=>1
 |_=>0
def actT (k a b:Nat):ByteArray :=
 if wordN k=0 then wordT k else if wordN k=1 then wordT k++(⟨#[32]⟩++numT a) else wordT k++(⟨#[32]⟩++numT a)++(⟨#[32]⟩++numT b)
def fmtRes (k a b:Int):ByteArray×Bool:=if actOk k a b=true then (actT k.toNat a.toNat b.toNat,true) else (⟨#[]⟩,false)
end Go.Proofs.YtlimlolciekimaaGreatDoor
