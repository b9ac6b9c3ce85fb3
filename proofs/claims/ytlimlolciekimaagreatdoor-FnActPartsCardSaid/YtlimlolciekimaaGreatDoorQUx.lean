/- Contracts of the program's and the reference's functions (Draw13). -/
import Derived.Test.YtlimlolciekimaaGreatDoorRows
import Derived.Test.YtlimlolciekimaaGreatDoorQUv
namespace Go.Proofs.YtlimlolciekimaaGreatDoor
set_option maxHeartbeats 1600000
open Go.ChangeShapes Go.WideShapes Go.ChangeAt Go.RowKit
set_option linter.unusedVariables false
set_option linter.unusedSimpArgs false
set_option maxRecDepth 10000
theorem s_l01BelowL (n:Int) (g B:Nat) (A:Option Addr) (c:Nat) (bs:List Int) (w:World) (hC:Cur w g B A c bs) (h0:257≤n) (h1:n≤1000000):Calls Tryz.prog 39 #[.pointer (some ⟨g,0,none⟩),.int .i64 n] w (Drawn n g B A c bs w):=by
 go_enter Tryz.func39,Tryz.ntmps39
 go_wp2_with fail
 refine (s_l01Byte g B A c bs w hC).mono ?_
 rintro e w1 ⟨x,rfl,hx0,hx1,C1,g1⟩
 go_wp2_with fail
 refine (s_l01Byte g B A c bs w1 C1).mono ?_
 rintro e w2 ⟨y,rfl,hy0,hy1,C2,g2⟩
 go_wp2_with fail
 refine (s_l01Byte g B A c bs w2 C2).mono ?_
 rintro e w3 ⟨z,rfl,hz0,hz1,C3,g3⟩
 go_wp2_with fail
 refine (s_l01Byte g B A c bs w3 C3).mono ?_
 rintro e w4 ⟨v,rfl,hv0,hv1,C4,g4⟩
 have hG:=only_trans (only_trans (only_trans g1 g2) g3) g4
 clear C1 C2 C3 g1 g2 g3 g4
 have hnz:¬n=0:=by omega
 have a1:IntKind.i64.wrap (x * 16777216)=x * 16777216:=by rw [IntKind.wrap_i64];omega
 have a2:IntKind.i64.wrap (y * 65536)=y * 65536:=by rw [IntKind.wrap_i64];omega
 have a3:IntKind.i64.wrap (z * 256)=z * 256:=by rw [IntKind.wrap_i64];omega
 have b1:wrap64 (x * 16777216)=x * 16777216:=by unfold wrap64;omega
 have b2:wrap64 (y * 65536)=y * 65536:=by unfold wrap64;omega
 have b3:wrap64 (z * 256)=z * 256:=by unfold wrap64;omega
 have hS:0≤x * 16777216+y * 65536+z * 256+v:=by omega
 go_wp2
 go_ret
 first
  |exact ⟨_,rfl,Int.emod_nonneg _ (by omega),Int.emod_lt_of_pos _ (by omega),C4,hG⟩
  |exact ⟨_,rfl,(tmod_bd hS (by omega)).1,(tmod_bd hS (by omega)).2,C4,hG⟩
theorem one_intD (x:Int):∀ u∈[Value.int .i64 x],u.oneCell'=true:=by intro u hu;simp at hu;subst hu;rfl
theorem ints_snocP (l:List Int) (x:Int):ints l++[Value.int .i64 x]=ints (l++[x]):=by simp [ints]
set_option maxHeartbeats 3200000 in
theorem s_DrawPlaces (B:Nat) (A:Option Addr) (c:Nat) (bs:List Int) (w:World) (hK:Code w B A bs) (hB:B≤w.heap.size) :
  Calls Tryz.prog 11 #[.slice A bs.length c] w fun e w'=>∃ (l:List Int) (Ap:Option Addr) (cp:Nat),l.length=12∧(∀ x∈l,0≤x∧x<10000)∧e=.returned (.slice Ap 12 cp)∧OwnN w' w.heap.size w'.heap.size Ap cp l∧Below w.heap.size w w':=by
 obtain ⟨i0,hi0,hz0,hz1,hz2⟩:=info_parts info_int
 go_enter Tryz.func11,Tryz.ntmps11
 go_wp2_with fail
 refine (s_l01New B A c bs w hK hB).mono ?_
 rintro e w1 ⟨rfl,C1,hb1⟩
 obtain ⟨g,hg⟩:∃ x,x=w.heap.size:=⟨_,rfl⟩
 rw [← hg] at C1 ⊢
 have hgw:w.heap.size≤g:=by omega
 have hgt:=C1.lt
 have hs1:=hb1.size
 clear hg
 obtain ⟨b1,hb1e⟩:∃ x,x=w1.heap.size:=⟨_,rfl⟩
 have hgb1:g<b1:=by omega
 have hwb1:w.heap.size≤b1:=by omega
 have hO0:(w1.alloc (.cells #[] 3)).ownsRow b1 3 1 (.slice (some ⟨w1.heap.size,0,none⟩) 0 0) 0 []:=World.ownsRow_made w1 #[] 0 (by omega) (by unfold maxLen;omega) rfl
 have hbs:b1≤(w1.alloc (.cells #[] 3)).heap.size:=by simp;omega
 clear hb1e
 have C2:=C1.alloc (.cells #[] 3)
 have hb2:Below w.heap.size w (w1.alloc (.cells #[] 3)):=hb1.alloc hs1 _
 go_wp2
 go_loopw [4,5] (fun o q wr=>∃ (j N:Nat) (l:List Int) (A':Option Addr) (c':Nat),j≤12∧(N≤j∧j≤N)∧q=.int .i64 (j:Int)∧o=.slice A' N c'∧Hid (l.length=N)∧Hid (∀ x∈l,0≤x∧x<10000)∧wr.ownsRow b1 3 1 (.slice A' N c') N (ints l)∧Cur wr g B A c bs∧Below w.heap.size w wr∧b1≤wr.heap.size) (fun _ q _=>12 - (intOf q).toNat)
 case atStart=>exact ⟨0,0,[],_,_,Nat.zero_le _,⟨Nat.le_refl _,Nat.le_refl _⟩,rfl,rfl,rfl,(fun x hx=>by cases hx),hO0,C2,hb2,hbs⟩
 case round =>
  clear hO0 C2 hb2 C1 hbs
  obtain ⟨j,N,l,A',c',hj,⟨hN1,hN2⟩,rfl,rfl,HL,HX,hown,C_,hb,hbr⟩:=hrel
  have hsw:=hb.size
  by_cases hlt:j<12
  ·go_wp2_with fail
   refine (s_l01BelowL 10000 g B A c bs wr C_ (by omega) (by omega)).mono ?_
   rintro e w3 ⟨x,rfl,hx0,hx1,C3,g3⟩
   have ho3:=own_boxy hown (by decide) (C_.boxy g3)
   have hb3:Below w.heap.size w w3:=hb.trans (grown_below g3 (fun k hk=>by injection hk with hk;omega) hsw)
   have hs3:=hb3.size
   have hbr3:b1≤w3.heap.size:=Nat.le_trans hbr g3.size
   have hgt3:=C3.lt
   have HSN:=Lib.hid (ints_snocP l x)
   have hone:=one_intD x
   have HONE:=hide hone
   clear hone hown C_ hb g3
   go_wp2_with (at_builtin;refine wpList_append_N _ rfl (.tmp 13) (.tmp 16) _ rfl b1 3 i0 _ 1 8 Tryz.underlying37 hi0 hz0 hz1 hz2 rfl (by omega) (.slice A' N c') N _ rfl (ho3.alloc _) (w3.heap.size+1) (some ⟨w3.heap.size,0,none⟩) 1 1 [.int .i64 x] rfl (reads_one _ _) (unhide HONE) ?_ ?_ ?_ (N+1) _ rfl HSN.out ?_;(unfold maxLen;omega);omega;(simp;omega);intro A2 c2 w5 ho5 hb5)
   go_roundw
   case rel =>
    have C5:=(C3.alloc (.cells #[.int .i64 x] 3)).below2 hb5 hgb1
    have hs5:=hb5.size
    exact ⟨j+1,N+1,l++[x],A2,c2,by omega,⟨by omega,by omega⟩,by go_num,rfl,by unfold Hid;simp [HL.out],(fun y hy=>by rcases List.mem_append.1 hy with hy|hy;exact HX.out y hy;rw [List.mem_singleton.1 hy];exact ⟨hx0,hx1⟩),ho5,C5,(hb3.alloc hs3 _).trans (hb5.mono hwb1),by simp at hs5;omega⟩
   case measure=>simp [intOf];omega
  ·have hj12:N=12:=by omega
   subst hj12
   go_wp2
   go_ret
   have hl:=HL.out
   exact ⟨l,A',c',hl,HX.out,rfl,(OwnN.of (by rw [hl];exact hown) (Nat.le_refl _)).wide hwb1 (Nat.le_refl _),hb⟩
end Go.Proofs.YtlimlolciekimaaGreatDoor
