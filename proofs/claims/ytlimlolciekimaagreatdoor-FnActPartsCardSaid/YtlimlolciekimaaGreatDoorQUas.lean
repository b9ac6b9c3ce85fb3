/- Contracts of the program's and the reference's functions (SameL). -/
import Derived.Test.YtlimlolciekimaaGreatDoorRows
import Derived.Test.YtlimlolciekimaaGreatDoorQUq
import Derived.Test.YtlimlolciekimaaGreatDoorQUa
namespace Go.Proofs.YtlimlolciekimaaGreatDoor
set_option maxHeartbeats 1600000
open Go.ChangeShapes Go.WideShapes Go.ChangeAt Go.RowKit
set_option linter.unusedVariables false
set_option linter.unusedSimpArgs false
set_option maxRecDepth 10000
theorem l_sameInts (B:Nat) (A1 A2:Option Addr) (n c1 c2:Nat) (l:List Int) (w:World) (h1:Reads w B 1 A1 n (ints l)) (h2:Reads w B 1 A2 n (ints l)) (hn:n≤16777216) :
  Calls Tryz.prog 15 #[.slice A1 n c1,.slice A2 n c2] w fun e w'=>e=.returned (.bool true)∧Below w.heap.size w w':=by
 go_enter Tryz.func15,Tryz.ntmps15
 go_wp2
 go_loopw [5] (fun i wr=>∃ j m:Nat,j≤n∧i=.int .i64 j∧wr=w.drewN m) (fun i _=>n - (intOf i).toNat)
 case atStart=>exact ⟨0,0,Nat.zero_le _,rfl,rfl⟩
 case round =>
  obtain ⟨j,m,hj,rfl,rfl⟩:=hrel
  by_cases hlt:j<n
  ·obtain ⟨hk1,ad1,rfl,hab1,hc1⟩:=ints_at h1 hlt
   obtain ⟨hk2,ad2,rfl,hab2,hc2⟩:=ints_at h2 hlt
   go_wp2
   go_quiet (fail)
   go_wp2
   go_roundw
   case rel=>exact ⟨j+1,_,by omega,by go_num,by first|rfl|exact World.drewN_drewN _ _ _⟩
   case measure=>simp [intOf];omega
  ·go_wp2
   go_ret
   exact ⟨rfl,bel⟩
theorem l_sameTexts (B:Nat) (A1 A2:Option Addr) (n c1 c2:Nat) (l:List ByteArray) (w:World) (h1:Strs w B A1 n l) (h2:Strs w B A2 n l) :
  Calls Tryz.prog 14 #[.slice A1 n c1,.slice A2 n c2] w fun e w'=>e=.returned (.bool true)∧Below w.heap.size w w':=by
 have hn:=h1.nb
 go_enter Tryz.func14,Tryz.ntmps14
 go_wp2
 go_loopw [5] (fun i wr=>∃ j m:Nat,j≤n∧i=.int .i64 j∧wr=w.drewN m) (fun i _=>n - (intOf i).toNat)
 case atStart=>exact ⟨0,0,Nat.zero_le _,rfl,rfl⟩
 case round =>
  obtain ⟨j,m,hj,rfl,rfl⟩:=hrel
  by_cases hlt:j<n
  ·obtain ⟨hk1,ad1,rfl,hab1,hc1,hs1⟩:=h1.at_ hlt
   obtain ⟨hk2,ad2,rfl,hab2,hc2,hs2⟩:=h2.at_ hlt
   obtain ⟨x,hx⟩:∃ x,l[j]=x:=⟨_,rfl⟩
   rw [hx] at hc1 hc2
   have hne:=beq_toList_true (rfl:x=x)
   clear hx hs1 hs2
   go_wp2
   go_quiet (fail)
   go_wp2
   go_roundw
   case rel=>exact ⟨j+1,_,by omega,by go_num,by first|rfl|exact World.drewN_drewN _ _ _⟩
   case measure=>simp [intOf];omega
  ·go_wp2
   go_ret
   exact ⟨rfl,bel⟩
end Go.Proofs.YtlimlolciekimaaGreatDoor
