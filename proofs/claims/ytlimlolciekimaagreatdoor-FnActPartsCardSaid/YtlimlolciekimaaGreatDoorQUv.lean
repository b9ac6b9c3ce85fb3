/- Contracts of the program's and the reference's functions (DrawC, DrawK, Draw6, Draw7, Draw8). -/
import Derived.Deep.RegionHeld3
import Derived.Test.YtlimlolciekimaaGreatDoorRows
import Derived.Test.YtlimlolciekimaaGreatDoorQUu
import Derived.Test.YtlimlolciekimaaGreatDoorQUq
import Derived.Test.YtlimlolciekimaaGreatDoorQUd
namespace Go.Proofs.YtlimlolciekimaaGreatDoor
set_option maxHeartbeats 1600000
open Go.ChangeShapes Go.WideShapes Go.ChangeAt Go.RowKit
set_option linter.unusedVariables false
set_option maxRecDepth 10000
section
variable {w w':World} {g B:Nat} {A:Option Addr} {c:Nat} {bs:List Int}
theorem Cur.boxAt (h:Cur w g B A c bs):boxAt w g:=by
 obtain ⟨i,q,h0,h1,hk⟩:=h.blk
 exact boxAt_of hk cur_notin
theorem Cur.boxy (h:Cur w g B A c bs) (hg:w.grownBy w' (some g)):Boxy w w' :=
 ⟨hg.size,fun k hkl hn=>hg.block k hkl (fun e=>hn (by injection e with e;subst e;exact h.boxAt))⟩
end
theorem s_l01PickInt (l:List Int) (A':Option Addr) (c' lo hi:Nat) (g B:Nat) (A:Option Addr) (c:Nat) (bs:List Int) (w:World) (hC:Cur w g B A c bs) (hO:OwnN w lo hi A' c' l) (h1:1≤l.length) (h2:l.length≤256) :
  Calls Tryz.prog 130 #[.pointer (some ⟨g,0,none⟩),.slice A' l.length c'] w fun e w'=>∃ x,x∈l∧e=.returned (.int .i64 x)∧Cur w' g B A c bs∧w.grownBy w' (some g):=by
 obtain ⟨n,hn⟩:∃ n,l.length=n:=⟨_,rfl⟩
 have HN:=Lib.hid hn
 rw [hn] at h1 h2 ⊢
 clear hn
 go_enter Tryz.func130,Tryz.ntmps130
 go_wp2_with fail
 refine (s_l01Below n g B A c bs w hC (by omega) (by omega)).mono ?_
 rintro e w1 ⟨x,rfl,hx0,hx1,hC1,hg1⟩
 obtain ⟨k,rfl⟩:∃ k:Nat,x=k:=⟨x.toNat,by omega⟩
 have ho1:=hO.boxy (hC.boxy hg1)
 have hkn:k<n:=by omega
 obtain ⟨ad,u,rfl,hab,hu,hcu⟩:=(Reads.of_own ho1.row).at_ (k:=k) (by rw [HN.out];exact hkn)
 obtain ⟨y,hy,rfl⟩:∃ y,y∈l∧u=.int .i64 y:=by
  unfold ints at hu
  rw [List.getElem?_map] at hu
  obtain ⟨q,hq,hqu⟩:=Option.map_eq_some_iff.1 hu
  exact ⟨q,List.mem_of_getElem? hq,hqu.symm⟩
 clear ho1 hu
 go_wp2
 go_ret
 exact ⟨y,hy,rfl,hC1,hg1⟩
theorem s_l01Pick (l:List ByteArray) (A':Option Addr) (c' lo hi:Nat) (g B:Nat) (A:Option Addr) (c:Nat) (bs:List Int) (w:World) (hC:Cur w g B A c bs) (hO:OwnS w lo hi A' c' l) (h1:1≤l.length) (h2:l.length≤256) :
  Calls Tryz.prog 186 #[.pointer (some ⟨g,0,none⟩),.slice A' l.length c'] w fun e w'=>∃ x,x∈l∧e=.returned (.string x)∧Cur w' g B A c bs∧w.grownBy w' (some g):=by
 obtain ⟨n,hn⟩:∃ n,l.length=n:=⟨_,rfl⟩
 have HN:=Lib.hid hn
 rw [hn] at h1 h2 ⊢
 clear hn
 go_enter Tryz.func186,Tryz.ntmps186
 go_wp2_with fail
 refine (s_l01Below n g B A c bs w hC (by omega) (by omega)).mono ?_
 rintro e w1 ⟨x,rfl,hx0,hx1,hC1,hg1⟩
 obtain ⟨k,rfl⟩:∃ k:Nat,x=k:=⟨x.toNat,by omega⟩
 have ho1:=hO.boxy (hC.boxy hg1)
 have hkn:k<n:=by omega
 obtain ⟨ad,u,rfl,hab,hu,hcu⟩:=(Reads.of_own ho1.row).at_ (k:=k) (by rw [HN.out];exact hkn)
 obtain ⟨y,hy,rfl⟩:∃ y,y∈l∧u=.string y:=by
  rw [List.getElem?_map] at hu
  obtain ⟨q,hq,hqu⟩:=Option.map_eq_some_iff.1 hu
  exact ⟨q,List.mem_of_getElem? hq,hqu.symm⟩
 clear ho1 hu
 go_wp2
 go_ret
 exact ⟨y,hy,rfl,hC1,hg1⟩
open Go.ChangeShapes Go.WideShapes Go.ChangeAt Go.RowKit
set_option linter.unusedVariables false
set_option maxRecDepth 10000
theorem hkw {w e:World} {g:Nat} {o:Obj} (he:w=e) (h:e.heap[g]?=some o):w.heap[g]?=some o:=he ▸ h
structure Kept (w W:World) (g r:Nat):Prop where
 os:W.os=w.os
 tape:W.tape=w.tape
 output:W.output=w.output
 size:w.heap.size≤W.heap.size
 block:∀ k,k<w.heap.size→k≠g→k≠r→W.heap[k]?=w.heap[k]?
section
variable {w0 w W W':World} {g r B:Nat} {A:Option Addr} {c:Nat} {bs:List Int}
theorem Kept.refl (w:World) (g r:Nat):Kept w w g r:=⟨rfl,rfl,rfl,Nat.le_refl _,fun _ _ _ _=>rfl⟩
theorem Kept.drew (h:Kept w W g r):Kept w W.drew g r:=⟨h.os,h.tape,h.output,h.size,h.block⟩
theorem Kept.drawn (h:Kept w W g r) (hg:W.grownBy W' (some g)):Kept w W' g r :=
 ⟨hg.os.trans h.os,hg.tape.trans h.tape,hg.output.trans h.output,Nat.le_trans h.size hg.size,fun k hk h1 h2=>(hg.block k (Nat.lt_of_lt_of_le hk h.size) (fun e=>h1 (Option.some.inj e))).trans (h.block k hk h1 h2)⟩
theorem Kept.set (h:Kept w W g r) (i:Nat) (v:Value):Kept w (W.setCell ⟨r,i,none⟩ v) g r :=
 ⟨h.os,h.tape,h.output,by simpa [World.setCell] using h.size,fun k hk h1 h2=>(Below.heap_setCell _ _ _ _ (show k≠r from h2)).trans (h.block k hk h1 h2)⟩
theorem Kept.grown (h:Kept w W g r) (hg:w0.grownBy w (some g)) (hr:w0.heap.size≤r):w0.grownBy W (some g) :=
 ⟨h.os.trans hg.os,h.tape.trans hg.tape,h.output.trans hg.output,Nat.le_trans hg.size h.size,fun k hk hne=>(h.block k (Nat.lt_of_lt_of_le hk hg.size) (fun e=>hne (by rw [e])) (by omega)).trans (hg.block k hk hne)⟩
end
theorem own_at {w:World} {lo hi k c:Nat} {A:Option Addr} {ss:List ByteArray} (h:OwnS w lo hi A c ss) (hk:k<ss.length):∃ ad:Addr,A=some ad∧ad.block<w.heap.size∧lo≤ad.block∧w.cell? (ad.add k)=some (.string ss[k]):=by
 obtain ⟨ad,u,hA,hab,hu,hcu⟩:=(Reads.of_own h.row).at_ (k:=k) (by omega)
 rw [List.getElem?_map,List.getElem?_eq_getElem hk] at hu
 have hb:(Value.slice A ss.length c).ownBlock=some ad.block:=by rw [hA];rfl
 refine ⟨ad,hA,hab,(h.row.lt _ hb).1,?_⟩
 rw [hcu,← hu];rfl
open Go.ChangeShapes Go.WideShapes Go.ChangeAt Go.RowKit
set_option linter.unusedVariables false
set_option maxRecDepth 10000
theorem ints_snocD (l:List Int) (x:Int):ints l++[Value.int .i64 x]=ints (l++[x]):=by simp [ints]
theorem s_RaisesOf (s:ByteArray) (w:World) (hs:s.size≤64) :
  Calls Tryz.prog 265 #[.string s] w fun e w'=>∃ (A:Option Addr) (c:Nat) (l:List Int),e=.returned (.slice A l.length c)∧l.length≤s.size∧OwnN w' w.heap.size w'.heap.size A c l∧Below w.heap.size w w':=by
 obtain ⟨i0,hi0,hz0,hz1,hz2⟩:=info_parts info_int
 go_enter Tryz.func265,Tryz.ntmps265
 go_wp2
 go_loopw [3,4] (fun o i wr=>∃ (j N:Nat) (A':Option Addr) (c':Nat) (l:List Int),1≤j∧j≤s.size+1∧N+1≤j∧i=.int .i64 j∧o=.slice A' N c'∧Hid (l.length=N)∧wr.ownsRow w.heap.size 3 1 (.slice A' N c') N (ints l)∧Below w.heap.size w wr) (fun _ i _=>s.size - (intOf i).toNat)
 case atStart =>
  have h:=made_at (e:=3) (size:=1) w w.heap.size w.heap.size rfl (Nat.le_refl _)
  exact ⟨1,0,_,_,[],Nat.le_refl _,by omega,Nat.le_refl _,rfl,rfl,rfl,h,bel⟩
 case round =>
  obtain ⟨j,N,A',c',l,hj1,hj,hNj,rfl,rfl,HN,hown,hb⟩:=hrel
  have hbs:=hb.size
  by_cases hlt:j<s.size
  ·cases hcr:cornerB 100 s (j:Int)
   ·have HC:=Lib.hid hcr
    clear hcr
    go_wp2_with (go_at_call 276;refine (s_IsValley s _ _ (by omega)).mono ?_;rw [HC.out];rintro e w1 ⟨rfl,m,rfl⟩)
    go_roundw
    case rel=>exact ⟨j+1,N,A',c',l,by omega,by omega,by omega,by go_num,rfl,HN,by exact hown,below_drewN hb _⟩
    case measure=>simp [intOf];omega
   ·have HC:=Lib.hid hcr
    have hone:∀ u∈[Value.int .i64 (j:Int)],u.oneCell'=true:=by intro u hu;simp at hu;subst hu;rfl
    clear hcr
    go_wp2_with (first|(go_at_call 276;refine (s_IsValley s _ _ (by omega)).mono ?_;rw [HC.out];rintro e w1 ⟨rfl,m,rfl⟩;obtain ⟨wq,hwq⟩:∃ W,W=wr.drewN m:=⟨_,rfl⟩;(have hownq:wq.ownsRow w.heap.size 3 1 (.slice A' N c') N (ints l):=(by rw [hwq];exact hown));(have hbq:Below w.heap.size w wq:=(by rw [hwq];exact below_drewN hb _));rw [← hwq];clear hwq hown hb;have hbs:=hbq.size)|(at_builtin;refine wpList_append_N _ rfl (.tmp 15) (.tmp 17) _ rfl w.heap.size 3 i0 _ 1 8 Tryz.underlying37 hi0 hz0 hz1 hz2 rfl (by omega) (.slice A' N c') N (ints l) rfl (hownq.alloc _) (wq.heap.size+1) (some ⟨wq.heap.size,0,none⟩) 1 1 [Value.int .i64 (j:Int)] rfl (reads_one _ _) hone ?_ ?_ ?_ (N+1) _ rfl (ints_snocD l _) ?_;(unfold maxLen;omega);omega;(simp;omega);intro A2 c2 w3 ho3 hb3))
    go_roundw
    case rel=>exact ⟨j+1,N+1,A2,c2,l++[(j:Int)],by omega,by omega,by omega,by go_num,rfl,by unfold Hid;simp [HN.out],ho3,bel⟩
    case measure=>simp [intOf];omega
  ·have hn:=HN.out
   subst hn
   go_wp2
   go_ret
   exact ⟨A',c',l,rfl,by omega,OwnN.of hown (Nat.le_refl _),hb⟩
theorem canAdd_in {d f:Int} {ss:List ByteArray} {k T:Int} (h:canAdd d f ss k k T=true):0≤k∧k<ss.length:=by
 have h1:=(canAdd_yes h).1
 unfold boxOk at h1
 simp only [Bool.and_eq_true,decide_eq_true_eq] at h1
 have:=inB_iff'.1 h1.1.2
 omega
set_option maxHeartbeats 3200000 in
theorem s_WidestBox (d f:Int) (B:Nat) (A:Option Addr) (n c:Nat) (ss:List ByteArray) (k T:Int) (w:World) (hS:Strs w B A n ss) (hB:B≤w.heap.size) (hn:n≤255) :
  Calls Tryz.prog 266 #[.agg #[.int .i64 d,.int .i64 f,.slice A n c],.int .i64 k,.int .i64 T] w fun e w'=>∃ (F L T:Int) (b:Bool),e=.returned (.tuple #[.agg #[.int .i64 F,.int .i64 L,.int .i64 T],.bool b])∧Below w.heap.size w w':=by
 have hl:=hS.len
 have hcanin:=fun h=>canAdd_in (d:=d) (f:=f) (ss:=ss) (k:=k) (T:=T) h
 rw [hl] at hcanin
 have HL:=Lib.hid hl
 clear hl
 go_enter Tryz.func266,Tryz.ntmps266
 go_wp2_with fail
 have hka:=blk_alloc (blk_new w (.cells #[.int .i64 d,.int .i64 f,.slice A n c] 26)) (.cells #[.int .i64 0,.int .i64 0,.int .i64 0] 165)
 have hkr:((w.alloc (.cells #[.int .i64 d,.int .i64 f,.slice A n c] 26)).alloc (.cells #[.int .i64 0,.int .i64 0,.int .i64 0] 165)).heap[w.heap.size+1]?=some (.cells #[.int .i64 0,.int .i64 0,.int .i64 0] 165 (0,0)):=blk_new_at _ _ (by simp)
 have hb0:Below w.heap.size w ((w.alloc (.cells #[.int .i64 d,.int .i64 f,.slice A n c] 26)).alloc (.cells #[.int .i64 0,.int .i64 0,.int .i64 0] 165)):=bel
 have hs0:((w.alloc (.cells #[.int .i64 d,.int .i64 f,.slice A n c] 26)).alloc (.cells #[.int .i64 0,.int .i64 0,.int .i64 0] 165)).heap.size=w.heap.size+2:=by simp
 generalize (w.alloc (.cells #[.int .i64 d,.int .i64 f,.slice A n c] 26)).alloc (.cells #[.int .i64 0,.int .i64 0,.int .i64 0] 165)=w0 at *
 refine (s_CanAdd d f B A n c ss k k T w0 (hS.below (hb0.mono hB)) (Nat.le_trans hB hb0.size)).mono ?_
 rintro e w1 ⟨rfl,hb1⟩
 have hka1:=blk_next hka hb1
 have hkr1:=blk_next hkr hb1
 have hbw1:Below w.heap.size w w1:=hb0.trans (hb1.mono hb0.size)
 have hs1:=hb1.size
 clear hka hkr hb0 hb1
 cases hcan:canAdd d f ss k k T
 ·clear hcanin hcan
  obtain ⟨hz0,hz1,hz2,hzl⟩:=blk3 hkr1
  have hf0:=(blk_cells hkr1 0).2
  have hf1:=(blk_cells hkr1 1).2
  have hf2:=(blk_cells hkr1 2).2
  go_wp2
  refine bodyPost_ret (v:=.tuple #[.agg #[.int .i64 0,.int .i64 0,.int .i64 0],.bool false]) (by simp [results,Tryz.results266,go_sem, *]) rfl ?_
  exact ⟨0,0,0,false,rfl,bel⟩
 ·obtain ⟨hk0,hkn⟩:=hcanin hcan
  clear hcan
  obtain ⟨K,rfl⟩:∃ K:Nat,k=K:=⟨k.toNat,by omega⟩
  obtain ⟨_,ad,rfl,hab,_⟩:=hS.at_ (k:=K) (by omega)
  go_wp2
  have hkb:=blk_new w1 (.cells #[.int .i64 (K:Int),.int .i64 (K:Int),.int .i64 T] 165)
  have hka2:=blk_alloc hka1 (.cells #[.int .i64 (K:Int),.int .i64 (K:Int),.int .i64 T] 165)
  have hkr2:=blk_alloc hkr1 (.cells #[.int .i64 (K:Int),.int .i64 (K:Int),.int .i64 T] 165)
  have hbw2:Below w.heap.size w (w1.alloc (.cells #[.int .i64 (K:Int),.int .i64 (K:Int),.int .i64 T] 165)):=bel
  have hs2:(w1.alloc (.cells #[.int .i64 (K:Int),.int .i64 (K:Int),.int .i64 T] 165)).heap.size=w1.heap.size+1:=by simp
  generalize w1.alloc (.cells #[.int .i64 (K:Int),.int .i64 (K:Int),.int .i64 T] 165)=w2 at *
  clear hka1 hkr1 hbw1
  obtain ⟨G,hG⟩:∃ G,G=w1.heap.size:=⟨_,rfl⟩
  rw [← hG] at hkb ⊢
  have hGw:w.heap.size+2≤G:=by omega
  have hG2:G<w2.heap.size:=by omega
  clear hG hs2
  have hkn':K<n:=by omega
  go_loopw [] (fun wr=>∃ (F:Nat),F≤K∧wr.heap[G]?=some (.cells #[.int .i64 (F:Int),.int .i64 (K:Int),.int .i64 T] 165 (0,0))∧wr.heap[w.heap.size]?=some (.cells #[.int .i64 d,.int .i64 f,.slice (some ad) n c] 26 (0,0))∧wr.heap[w.heap.size+1]?=some (.cells #[.int .i64 0,.int .i64 0,.int .i64 0] 165 (0,0))∧Below w.heap.size w wr∧G<wr.heap.size) (fun wr=>(intOf ((wr.cell? ⟨G,0,none⟩).getD (.int .i64 0))).toNat)
  case atStart=>exact ⟨K,Nat.le_refl _,hkb,hka2,hkr2,hbw2,by omega⟩
  case round =>
   clear hkb hka2 hkr2 hbw2
   obtain ⟨F,hF,hkb,hka,hkr,hb,hGl⟩:=hrel
   obtain ⟨hx0,hx1,hx2,hxl⟩:=blk3 hkb
   obtain ⟨hy0,hy1,hy2,hyl⟩:=blk3 hka
   have hfb0:=(blk_cells hkb 0).2
   by_cases h0:0<F
   ·obtain ⟨K1,hK1⟩:∃ K1,K1+1=F:=⟨F - 1,by omega⟩
    obtain ⟨hj3,ad',e',hab',hcs,hsb⟩:=(hS.below (hb.mono hB)).at_ (k:=K1) (by omega)
    injection e' with e'
    subst e'
    have hidx:((F:Int) - 1).toNat=K1:=by omega
    have hq1:(0:Int)≤(F:Int) - 1:=by omega
    have hq2:(F:Int) - 1<(n:Int):=by omega
    cases hv:cornerB 100 ss[K1] T
    ·have HV:=Lib.hid hv
     clear hv
     go_wp2_with (go_at_call 276;refine (s_IsValley _ _ _ hsb).mono ?_;rw [HV.out];rintro e w' ⟨rfl,m,rfl⟩)
     obtain ⟨wo,hwo⟩:∃ wo:World,wo=wr.drewN m:=⟨_,rfl⟩
     rw [← hwo]
     have hb:Below w.heap.size w wo:=by rw [hwo];first|exact hb|exact below_drewN hb _
     have hkb:wo.heap[G]?=some (.cells #[.int .i64 (F:Int),.int .i64 (K:Int),.int .i64 T] 165 (0,0)):=by rw [hwo];exact hkb
     have hka:wo.heap[w.heap.size]?=some (.cells #[.int .i64 d,.int .i64 f,.slice (some ad) n c] 26 (0,0)):=by rw [hwo];exact hka
     have hkr:wo.heap[w.heap.size+1]?=some (.cells #[.int .i64 0,.int .i64 0,.int .i64 0] 165 (0,0)):=by rw [hwo];exact hkr
     have hGl:G<wo.heap.size:=by rw [hwo];exact hGl
     clear hwo hx0 hx1 hx2 hxl hy0 hy1 hy2 hyl hfb0
     go_loopw [] (fun wr=>∃ (L:Nat),K≤L∧L<n∧wr.heap[G]?=some (.cells #[.int .i64 (F:Int),.int .i64 (L:Int),.int .i64 T] 165 (0,0))∧wr.heap[w.heap.size]?=some (.cells #[.int .i64 d,.int .i64 f,.slice (some ad) n c] 26 (0,0))∧wr.heap[w.heap.size+1]?=some (.cells #[.int .i64 0,.int .i64 0,.int .i64 0] 165 (0,0))∧Below w.heap.size w wr∧G<wr.heap.size) (fun wr=>n - (intOf ((wr.cell? ⟨G,1,none⟩).getD (.int .i64 0))).toNat)
     case atStart=>exact ⟨K,Nat.le_refl _,hkn',hkb,hka,hkr,hb,hGl⟩
     case round =>
      clear hkb hka hkr hb hGl
      obtain ⟨L,hL0,hL1,hkb,hka,hkr,hb,hGl⟩:=hrel
      obtain ⟨hx0,hx1,hx2,hxl⟩:=blk3 hkb
      obtain ⟨hy0,hy1,hy2,hyl⟩:=blk3 hka
      have hfb1:=(blk_cells hkb 1).2
      by_cases h1:L+1<n
      ·skip
       obtain ⟨L1,hLL⟩:∃ L1,L+1=L1:=⟨_,rfl⟩
       obtain ⟨hj3,ad',e',hab',hcs,hsb⟩:=(hS.below (hb.mono hB)).at_ (k:=L1) (by omega)
       injection e' with e'
       subst e'
       have hidx:((L:Int)+1).toNat=L1:=by omega
       have hq1:(0:Int)≤(L:Int)+1:=by omega
       have hq2:(L:Int)+1<(n:Int):=by omega
       have h1':(L:Int)+1<(n:Int):=by omega
       cases hv:cornerB 100 ss[L1] T
       ·have HV:=Lib.hid hv
        clear hv
        obtain ⟨hz0,hz1,hz2,hzl⟩:=blk3 hkr
        have hf0:=(blk_cells hkr 0).2
        have hf1:=(blk_cells hkr 1).2
        have hf2:=(blk_cells hkr 2).2
        go_wp2_with (go_at_call 276;refine (s_IsValley _ _ _ hsb).mono ?_;rw [HV.out];rintro e w' ⟨rfl,m,rfl⟩)
        refine bodyPost_ret (v:=.tuple #[.agg #[.int .i64 (F:Int),.int .i64 (L:Int),.int .i64 T],.bool true]) (by simp [results,Tryz.results266,go_sem, *]) rfl ?_
        first|exact ⟨F,L,T,true,rfl,bel⟩|exact ⟨⟨_,_,_,rfl⟩,bel⟩|exact ⟨⟨_,_,_,.inr rfl⟩,bel⟩
       ·have HV:=Lib.hid hv
        clear hv
        go_wp2_with (go_at_call 276;refine (s_IsValley _ _ _ hsb).mono ?_;rw [HV.out];rintro e w' ⟨rfl,m,rfl⟩)
        go_roundw
        case rel =>
         exact ⟨L+1,by omega,h1,by have hq9:=blk_set (show (wr.drewN m).heap[G]?=_ from hkb) 1 (.int .i64 ((L:Int)+1));simpa using hq9,(blk_other (show (wr.drewN m).heap[w.heap.size]?=_ from hka) (show ¬w.heap.size=G by omega) _),(blk_other (show (wr.drewN m).heap[w.heap.size+1]?=_ from hkr) (show ¬w.heap.size+1=G by omega) _),bel,by simp [World.setCell];exact hGl⟩
        case measure =>
         have hn0:=(blk_cells (blk_set (show (wr.drewN m).heap[G]?=_ from hkb) 1 (.int .i64 ((L:Int)+1))) 1).1
         simp [hn0,hx1,intOf]
         omega
      ·have h1':¬(L:Int)+1<(n:Int):=by omega
       obtain ⟨hz0,hz1,hz2,hzl⟩:=blk3 hkr
       have hf0:=(blk_cells hkr 0).2
       have hf1:=(blk_cells hkr 1).2
       have hf2:=(blk_cells hkr 2).2
       go_wp2
       refine bodyPost_ret (v:=.tuple #[.agg #[.int .i64 (F:Int),.int .i64 (L:Int),.int .i64 T],.bool true]) (by simp [results,Tryz.results266,go_sem, *]) rfl ?_
       first|exact ⟨F,L,T,true,rfl,bel⟩|exact ⟨⟨_,_,_,rfl⟩,bel⟩|exact ⟨⟨_,_,_,.inr rfl⟩,bel⟩
    ·have HV:=Lib.hid hv
     clear hv
     go_wp2_with (go_at_call 276;refine (s_IsValley _ _ _ hsb).mono ?_;rw [HV.out];rintro e w' ⟨rfl,m,rfl⟩)
     go_roundw
     case rel =>
      have hFK:(F:Int) - 1=(K1:Int):=by omega
      exact ⟨K1,by omega,by have hq9:=blk_set (show (wr.drewN m).heap[G]?=_ from hkb) 0 (.int .i64 ((F:Int) - 1));rw [hFK] at hq9 ⊢;simpa using hq9,(blk_other (show (wr.drewN m).heap[w.heap.size]?=_ from hka) (show ¬w.heap.size=G by omega) _),(blk_other (show (wr.drewN m).heap[w.heap.size+1]?=_ from hkr) (show ¬w.heap.size+1=G by omega) _),bel,by simp [World.setCell];exact hGl⟩
     case measure =>
      have hn0:=(blk_cells (blk_set (show (wr.drewN m).heap[G]?=_ from hkb) 0 (.int .i64 ((F:Int) - 1))) 0).1
      simp [hn0,hx0,intOf]
      omega
   ·go_wp2
    obtain ⟨wo,hwo⟩:∃ wo:World,wo=wr:=⟨_,rfl⟩
    rw [← hwo]
    have hb:Below w.heap.size w wo:=by rw [hwo];first|exact hb|exact below_drewN hb _
    have hkb:wo.heap[G]?=some (.cells #[.int .i64 (F:Int),.int .i64 (K:Int),.int .i64 T] 165 (0,0)):=by rw [hwo];exact hkb
    have hka:wo.heap[w.heap.size]?=some (.cells #[.int .i64 d,.int .i64 f,.slice (some ad) n c] 26 (0,0)):=by rw [hwo];exact hka
    have hkr:wo.heap[w.heap.size+1]?=some (.cells #[.int .i64 0,.int .i64 0,.int .i64 0] 165 (0,0)):=by rw [hwo];exact hkr
    have hGl:G<wo.heap.size:=by rw [hwo];exact hGl
    clear hwo hx0 hx1 hx2 hxl hy0 hy1 hy2 hyl hfb0
    go_loopw [] (fun wr=>∃ (L:Nat),K≤L∧L<n∧wr.heap[G]?=some (.cells #[.int .i64 (F:Int),.int .i64 (L:Int),.int .i64 T] 165 (0,0))∧wr.heap[w.heap.size]?=some (.cells #[.int .i64 d,.int .i64 f,.slice (some ad) n c] 26 (0,0))∧wr.heap[w.heap.size+1]?=some (.cells #[.int .i64 0,.int .i64 0,.int .i64 0] 165 (0,0))∧Below w.heap.size w wr∧G<wr.heap.size) (fun wr=>n - (intOf ((wr.cell? ⟨G,1,none⟩).getD (.int .i64 0))).toNat)
    case atStart=>exact ⟨K,Nat.le_refl _,hkn',hkb,hka,hkr,hb,hGl⟩
    case round =>
     clear hkb hka hkr hb hGl
     obtain ⟨L,hL0,hL1,hkb,hka,hkr,hb,hGl⟩:=hrel
     obtain ⟨hx0,hx1,hx2,hxl⟩:=blk3 hkb
     obtain ⟨hy0,hy1,hy2,hyl⟩:=blk3 hka
     have hfb1:=(blk_cells hkb 1).2
     by_cases h1:L+1<n
     ·skip
      obtain ⟨L1,hLL⟩:∃ L1,L+1=L1:=⟨_,rfl⟩
      obtain ⟨hj3,ad',e',hab',hcs,hsb⟩:=(hS.below (hb.mono hB)).at_ (k:=L1) (by omega)
      injection e' with e'
      subst e'
      have hidx:((L:Int)+1).toNat=L1:=by omega
      have hq1:(0:Int)≤(L:Int)+1:=by omega
      have hq2:(L:Int)+1<(n:Int):=by omega
      have h1':(L:Int)+1<(n:Int):=by omega
      cases hv:cornerB 100 ss[L1] T
      ·have HV:=Lib.hid hv
       clear hv
       obtain ⟨hz0,hz1,hz2,hzl⟩:=blk3 hkr
       have hf0:=(blk_cells hkr 0).2
       have hf1:=(blk_cells hkr 1).2
       have hf2:=(blk_cells hkr 2).2
       go_wp2_with (go_at_call 276;refine (s_IsValley _ _ _ hsb).mono ?_;rw [HV.out];rintro e w' ⟨rfl,m,rfl⟩)
       refine bodyPost_ret (v:=.tuple #[.agg #[.int .i64 (F:Int),.int .i64 (L:Int),.int .i64 T],.bool true]) (by simp [results,Tryz.results266,go_sem, *]) rfl ?_
       first|exact ⟨F,L,T,true,rfl,bel⟩|exact ⟨⟨_,_,_,rfl⟩,bel⟩|exact ⟨⟨_,_,_,.inr rfl⟩,bel⟩
      ·have HV:=Lib.hid hv
       clear hv
       go_wp2_with (go_at_call 276;refine (s_IsValley _ _ _ hsb).mono ?_;rw [HV.out];rintro e w' ⟨rfl,m,rfl⟩)
       go_roundw
       case rel =>
        exact ⟨L+1,by omega,h1,by have hq9:=blk_set (show (wr.drewN m).heap[G]?=_ from hkb) 1 (.int .i64 ((L:Int)+1));simpa using hq9,(blk_other (show (wr.drewN m).heap[w.heap.size]?=_ from hka) (show ¬w.heap.size=G by omega) _),(blk_other (show (wr.drewN m).heap[w.heap.size+1]?=_ from hkr) (show ¬w.heap.size+1=G by omega) _),bel,by simp [World.setCell];exact hGl⟩
       case measure =>
        have hn0:=(blk_cells (blk_set (show (wr.drewN m).heap[G]?=_ from hkb) 1 (.int .i64 ((L:Int)+1))) 1).1
        simp [hn0,hx1,intOf]
        omega
     ·have h1':¬(L:Int)+1<(n:Int):=by omega
      obtain ⟨hz0,hz1,hz2,hzl⟩:=blk3 hkr
      have hf0:=(blk_cells hkr 0).2
      have hf1:=(blk_cells hkr 1).2
      have hf2:=(blk_cells hkr 2).2
      go_wp2
      refine bodyPost_ret (v:=.tuple #[.agg #[.int .i64 (F:Int),.int .i64 (L:Int),.int .i64 T],.bool true]) (by simp [results,Tryz.results266,go_sem, *]) rfl ?_
      first|exact ⟨F,L,T,true,rfl,bel⟩|exact ⟨⟨_,_,_,rfl⟩,bel⟩|exact ⟨⟨_,_,_,.inr rfl⟩,bel⟩
set_option linter.unusedSimpArgs false
set_option maxHeartbeats 3200000 in
theorem s_l11Box (d f:Int) (ss:List ByteArray) (A':Option Addr) (c' lo hi:Nat) (g B:Nat) (A:Option Addr) (c:Nat) (bs:List Int) (w:World) (hC:Cur w g B A c bs) (hO:OwnS w lo hi A' c' ss) (hn:ss.length≤10) (hz:∀ s∈ss,s.size≤16) :
  Calls Tryz.prog 234 #[.pointer (some ⟨g,0,none⟩),.agg #[.int .i64 d,.int .i64 f,.slice A' ss.length c']] w fun e w'=>∃ F L T:Int,e=.returned (.agg #[.int .i64 F,.int .i64 L,.int .i64 T])∧Cur w' g B A c bs∧w.grownBy w' (some g):=by
 have hgw:=hC.lt
 have hlo:=hC.lo
 have hz':∀ s∈ss,s.size≤16777216:=fun s hs=>by have:=hz s hs;omega
 have HZ:=hide hz'
 have HZ16:=hide hz
 clear hz hz'
 obtain ⟨n,hnn⟩:∃ n,ss.length=n:=⟨_,rfl⟩
 have HN:=Lib.hid hnn
 rw [hnn] at hn ⊢
 clear hnn
 have C_:=hC
 have G_:=World.grownBy.refl w (some g)
 have HOS:=hide (fun (W:World) (h:w.grownBy W (some g))=>hO.boxy (hC.boxy h))
 clear hC hO
 go_enter Tryz.func234,Tryz.ntmps234
 go_wp2_with fail
 generalize e_:(World.alloc _ _)=w1
 symm at e_
 have z_:Below w.heap.size w w1:=by rw [e_];exact bel
 have k_a:w1.heap[w.heap.size]?=some (.cells #[.int .i64 d,.int .i64 f,.slice A' n c'] 26 (0,0)):=by rw [e_];exact (blk_alloc (blk_new_at _ _ (by simp)) _)
 have k_r:w1.heap[w.heap.size+1]?=some (.cells #[.int .i64 0,.int .i64 0,.int .i64 0] 165 (0,0)):=by rw [e_];exact (blk_new_at _ _ (by simp))
 replace C_:Cur w1 g B A c bs:=by rw [e_];exact ((C_.alloc _).alloc _)
 replace G_:w.grownBy w1 (some g):=grown_then G_ z_
 have s_w1:w.heap.size≤w1.heap.size:=by rw [e_];simp [World.setCell];try omega
 obtain ⟨ba,eb_⟩:∃ x,x=w.heap.size:=⟨_,rfl⟩
 rw [← eb_] at k_a
 have l_a:w.heap.size≤ba:=by omega
 have eb_a:=eb_;clear eb_
 obtain ⟨br,eb_⟩:∃ x,x=w.heap.size+1:=⟨_,rfl⟩
 rw [← eb_] at k_r
 have l_r:w.heap.size≤br:=by omega
 have d_ar:ba<br:=by omega
 have eb_r:=eb_;clear eb_
 clear e_ z_
 try rw [← eb_r]
 try rw [← eb_a]
 clear eb_a
 clear eb_r
 refine (s_l01Below ((n:Int)+1) g B A c bs w1 C_ (by omega) (by omega)).mono ?_
 rintro e w2 ⟨k0,rfl,hk0,hk1,C2_,g_⟩
 replace k_a:=C_.blk_keep k_a (by omega) g_
 replace k_r:=C_.blk_keep k_r (by omega) g_
 replace G_:=only_trans G_ g_
 have s_w2:=g_.size
 clear C_ g_
 have C_:=C2_;clear C2_
 obtain ⟨k,rfl⟩:∃ k:Nat,k0=k:=⟨k0.toNat,by omega⟩
 go_wp2_with fail
 refine (s_l01Below 3 g B A c bs w2 C_ (by omega) (by omega)).mono ?_
 rintro e w3 ⟨x1,rfl,hx10,hx11,C2_,g_⟩
 replace k_a:=C_.blk_keep k_a (by omega) g_
 replace k_r:=C_.blk_keep k_r (by omega) g_
 replace G_:=only_trans G_ g_
 have s_w3:=g_.size
 clear C_ g_
 have C_:=C2_;clear C2_
 go_wp2_with fail
 refine (s_l01Below 8 g B A c bs w3 C_ (by omega) (by omega)).mono ?_
 rintro e w4 ⟨x2,rfl,hx20,hx21,C2_,g_⟩
 replace k_a:=C_.blk_keep k_a (by omega) g_
 replace k_r:=C_.blk_keep k_r (by omega) g_
 replace G_:=only_trans G_ g_
 have s_w4:=g_.size
 clear C_ g_
 have C_:=C2_;clear C2_
 have hw1:IntKind.i64.wrap ((k:Int)+x1)=(k:Int)+x1:=by rw [IntKind.wrap_i64];omega
 have hw2:IntKind.i64.wrap (1+x2)=1+x2:=by rw [IntKind.wrap_i64];omega
 by_cases hkn:k<n
 ·skip
  have hkn2:(k:Int)<(n:Int):=by omega
  obtain ⟨x0a,x1a,x2a,xla⟩:=blk3 k_a
  clear x0a x1a x2a xla
  obtain ⟨x0a,x1a,x2a,xla⟩:=blk3 k_a
  go_wp2_with fail
  clear x0a x1a x2a xla
  have q_a:=blk_lt k_a
  have q_r:=blk_lt k_r
  generalize e_:(World.alloc _ _)=w5
  symm at e_
  have z_:Below w.heap.size w4 w5:=by rw [e_];exact bel
  replace k_a:=hkw e_ (blk_alloc k_a _)
  replace k_r:=hkw e_ (blk_alloc k_r _)
  have k_b:w5.heap[w4.heap.size]?=some (.cells #[.int .i64 (k:Int),.int .i64 ((k:Int)+x1),.int .i64 (1+x2)] 165 (0,0)):=by rw [e_];exact (blk_new_at _ _ (by simp))
  replace C_:Cur w5 g B A c bs:=by rw [e_];exact (C_.alloc _)
  replace G_:w.grownBy w5 (some g):=grown_then G_ z_
  have s_w5:w4.heap.size≤w5.heap.size:=by rw [e_];simp [World.setCell];try omega
  obtain ⟨bb,eb_⟩:∃ x,x=w4.heap.size:=⟨_,rfl⟩
  rw [← eb_] at k_b
  have l_b:w.heap.size≤bb:=by omega
  have d_ab:ba<bb:=by omega
  have d_rb:br<bb:=by omega
  have eb_b:=eb_;clear eb_
  clear e_ z_ q_a q_r
  try rw [← eb_b]
  clear eb_b
  refine (s_l01Below 3 g B A c bs w5 C_ (by omega) (by omega)).mono ?_
  rintro e w6 ⟨x3,rfl,hx30,hx31,C2_,g_⟩
  replace k_a:=C_.blk_keep k_a (by omega) g_
  replace k_r:=C_.blk_keep k_r (by omega) g_
  replace k_b:=C_.blk_keep k_b (by omega) g_
  replace G_:=only_trans G_ g_
  have s_w6:=g_.size
  clear C_ g_
  have C_:=C2_;clear C2_
  by_cases hx3:0<x3
  ·skip
   have hkl:k<ss.length:=by rw [HN.out];exact hkn
   obtain ⟨ad,hA,hab,hlo2,hcs⟩:=own_at (HOS.out _ G_) (k:=k) hkl
   subst hA
   have hs16:=HZ16.out _ (List.getElem_mem hkl)
   generalize ss[k]=sk at *
   obtain ⟨x0a,x1a,x2a,xla⟩:=blk3 k_a
   go_wp2_with fail
   clear x0a x1a x2a xla
   clear hcs hab hlo2
   refine (s_RaisesOf sk w6 (by omega)).mono ?_
   rintro e w7 ⟨A2,c2,l,rfl,hl,o_l,z_⟩
   replace k_a:=blk_next k_a z_
   replace k_r:=blk_next k_r z_
   replace k_b:=blk_next k_b z_
   replace C_:=C_.below z_
   replace G_:=grown_then G_ (z_.mono G_.size)
   have s_w7:=z_.size
   clear z_
   obtain ⟨m,hm⟩:∃ m,l.length=m:=⟨_,rfl⟩
   have HM:=Lib.hid hm
   rw [hm] at hl ⊢
   clear hm
   by_cases hm0:0<m
   ·skip
    go_wp2_with fail
    refine (s_l01Below m g B A c bs w7 C_ (by omega) (by omega)).mono ?_
    rintro e w8 ⟨i0,rfl,hi0,hi1,C2_,g_⟩
    replace k_a:=C_.blk_keep k_a (by omega) g_
    replace k_r:=C_.blk_keep k_r (by omega) g_
    replace k_b:=C_.blk_keep k_b (by omega) g_
    replace o_l:=o_l.boxy (C_.boxy g_)
    replace G_:=only_trans G_ g_
    have s_w8:=g_.size
    clear C_ g_
    have C_:=C2_;clear C2_
    obtain ⟨i,rfl⟩:∃ i:Nat,i0=i:=⟨i0.toNat,by omega⟩
    obtain ⟨ad2,u,rfl,hab2,hu,hcu⟩:=(Reads.of_own o_l.row).at_ (k:=i) (by rw [HM.out];omega)
    obtain ⟨y,rfl⟩:∃ y,u=.int .i64 y:=by
     unfold ints at hu
     rw [List.getElem?_map] at hu
     obtain ⟨q,hq,hqu⟩:=Option.map_eq_some_iff.1 hu
     exact ⟨q,hqu.symm⟩
    clear hu
    obtain ⟨x0a,x1a,x2a,xla⟩:=blk3 k_a
    obtain ⟨x0b,x1b,x2b,xlb⟩:=blk3 k_b
    have f0b:=(blk_cells k_b 0).2
    have f1b:=(blk_cells k_b 1).2
    have f2b:=(blk_cells k_b 2).2
    go_wp2_with fail
    clear x0a x1a x2a xla x0b x1b x2b xlb f0b f1b f2b
    clear hcu hab2
    clear o_l
    have q_a:=blk_lt k_a
    have q_r:=blk_lt k_r
    have q_b:=blk_lt k_b
    generalize e_:(World.setCell _ _ _)=w9
    symm at e_
    have z_:Below w.heap.size w8 w9:=by rw [e_];exact bel
    replace k_a:=hkw e_ (blk_other k_a (show ¬ba=bb by omega) _)
    replace k_r:=hkw e_ (blk_other k_r (show ¬br=bb by omega) _)
    have k2_b:w9.heap[bb]?=some (.cells #[.int .i64 (k:Int),.int .i64 ((k:Int)+x1),.int .i64 y] 165 (0,0)):=by rw [e_];have hq9:=(blk_set k_b 2 (.int .i64 y));simpa using hq9
    clear k_b;have k_b:=k2_b;clear k2_b
    replace C_:Cur w9 g B A c bs:=by rw [e_];exact (C_.put_other (by simp;omega) (by simp;omega) _)
    replace G_:w.grownBy w9 (some g):=grown_then G_ z_
    have s_w9:w8.heap.size≤w9.heap.size:=by rw [e_];simp [World.setCell];try omega
    clear e_ z_ q_a q_r q_b
    refine (s_WidestBox d f w9.heap.size (some ad) n c' ss (k:Int) y w9 (HN.out ▸ (HOS.out _ G_).rd (by rw [HN.out];omega) HZ.out) (Nat.le_refl _) (by omega)).mono ?_
    rintro e w10 ⟨F,L,T,bb,rfl,z_⟩
    replace k_a:=blk_next k_a z_
    replace k_r:=blk_next k_r z_
    replace k_b:=blk_next k_b z_
    replace C_:=C_.below z_
    replace G_:=grown_then G_ (z_.mono G_.size)
    have s_w10:=z_.size
    clear z_
    cases bb
    ·skip
     obtain ⟨x0b,x1b,x2b,xlb⟩:=blk3 k_b
     obtain ⟨x0r,x1r,x2r,xlr⟩:=blk3 k_r
     have f0r:=(blk_cells k_r 0).2
     have f1r:=(blk_cells k_r 1).2
     have f2r:=(blk_cells k_r 2).2
     go_wp2
     refine bodyPost_ret (v:=.agg #[.int .i64 (k:Int),.int .i64 ((k:Int)+x1),.int .i64 y]) (by simp [results,Tryz.results234,go_sem, *]) rfl ?_
     exact ⟨_,_,_,rfl,(by repeat (first|exact C_|(refine Cur.put_other ?_ (by simp;omega) (by simp;omega) _)|(refine Cur.alloc ?_ _))),grown_then G_ bel⟩
    ·skip
     go_wp2_with fail
     have q_a:=blk_lt k_a
     have q_r:=blk_lt k_r
     have q_b:=blk_lt k_b
     generalize e_:(World.alloc _ _)=w11
     symm at e_
     have z_:Below w.heap.size w10 w11:=by rw [e_];exact bel
     replace k_a:=hkw e_ (blk_alloc k_a _)
     replace k_r:=hkw e_ (blk_alloc k_r _)
     replace k_b:=hkw e_ (blk_alloc k_b _)
     have k_x:w11.heap[w10.heap.size]?=some (.cells #[.int .i64 F,.int .i64 L,.int .i64 T] 165 (0,0)):=by rw [e_];exact (blk_new_at _ _ (by simp))
     replace C_:Cur w11 g B A c bs:=by rw [e_];exact (C_.alloc _)
     replace G_:w.grownBy w11 (some g):=grown_then G_ z_
     have s_w11:w10.heap.size≤w11.heap.size:=by rw [e_];simp [World.setCell];try omega
     obtain ⟨bx,eb_⟩:∃ x,x=w10.heap.size:=⟨_,rfl⟩
     rw [← eb_] at k_x
     have l_x:w.heap.size≤bx:=by omega
     have d_ax:ba<bx:=by omega
     have d_rx:br<bx:=by omega
     have d_bx:bb<bx:=by omega
     have eb_x:=eb_;clear eb_
     clear e_ z_ q_a q_r q_b
     try rw [← eb_x]
     clear eb_x
     refine (s_l01Once 2 g B A c bs w11 C_ (by omega) (by omega)).mono ?_
     rintro e w12 ⟨b2,rfl,C2_,g_⟩
     replace k_a:=C_.blk_keep k_a (by omega) g_
     replace k_r:=C_.blk_keep k_r (by omega) g_
     replace k_b:=C_.blk_keep k_b (by omega) g_
     replace k_x:=C_.blk_keep k_x (by omega) g_
     replace G_:=only_trans G_ g_
     have s_w12:=g_.size
     clear C_ g_
     have C_:=C2_;clear C2_
     cases b2
     ·skip
      obtain ⟨x0b,x1b,x2b,xlb⟩:=blk3 k_b
      obtain ⟨x0r,x1r,x2r,xlr⟩:=blk3 k_r
      have f0r:=(blk_cells k_r 0).2
      have f1r:=(blk_cells k_r 1).2
      have f2r:=(blk_cells k_r 2).2
      go_wp2
      refine bodyPost_ret (v:=.agg #[.int .i64 (k:Int),.int .i64 ((k:Int)+x1),.int .i64 y]) (by simp [results,Tryz.results234,go_sem, *]) rfl ?_
      exact ⟨_,_,_,rfl,(by repeat (first|exact C_|(refine Cur.put_other ?_ (by simp;omega) (by simp;omega) _)|(refine Cur.alloc ?_ _))),grown_then G_ bel⟩
     ·skip
      obtain ⟨x0x,x1x,x2x,xlx⟩:=blk3 k_x
      obtain ⟨x0b,x1b,x2b,xlb⟩:=blk3 k_b
      obtain ⟨x0r,x1r,x2r,xlr⟩:=blk3 k_r
      have f0b:=(blk_cells k_b 0).2
      have f1b:=(blk_cells k_b 1).2
      have f2b:=(blk_cells k_b 2).2
      have f0r:=(blk_cells k_r 0).2
      have f1r:=(blk_cells k_r 1).2
      have f2r:=(blk_cells k_r 2).2
      go_wp2
      refine bodyPost_ret (v:=.agg #[.int .i64 F,.int .i64 L,.int .i64 T]) (by simp [results,Tryz.results234,go_sem, *]) rfl ?_
      exact ⟨_,_,_,rfl,(by repeat (first|exact C_|(refine Cur.put_other ?_ (by simp;omega) (by simp;omega) _)|(refine Cur.alloc ?_ _))),grown_then G_ bel⟩
   ·skip
    obtain ⟨x0b,x1b,x2b,xlb⟩:=blk3 k_b
    obtain ⟨x0r,x1r,x2r,xlr⟩:=blk3 k_r
    have f0r:=(blk_cells k_r 0).2
    have f1r:=(blk_cells k_r 1).2
    have f2r:=(blk_cells k_r 2).2
    go_wp2
    refine bodyPost_ret (v:=.agg #[.int .i64 (k:Int),.int .i64 ((k:Int)+x1),.int .i64 (1+x2)]) (by simp [results,Tryz.results234,go_sem, *]) rfl ?_
    exact ⟨_,_,_,rfl,(by repeat (first|exact C_|(refine Cur.put_other ?_ (by simp;omega) (by simp;omega) _)|(refine Cur.alloc ?_ _))),grown_then G_ bel⟩
  ·skip
   obtain ⟨x0b,x1b,x2b,xlb⟩:=blk3 k_b
   obtain ⟨x0r,x1r,x2r,xlr⟩:=blk3 k_r
   have f0r:=(blk_cells k_r 0).2
   have f1r:=(blk_cells k_r 1).2
   have f2r:=(blk_cells k_r 2).2
   go_wp2
   refine bodyPost_ret (v:=.agg #[.int .i64 (k:Int),.int .i64 ((k:Int)+x1),.int .i64 (1+x2)]) (by simp [results,Tryz.results234,go_sem, *]) rfl ?_
   exact ⟨_,_,_,rfl,(by repeat (first|exact C_|(refine Cur.put_other ?_ (by simp;omega) (by simp;omega) _)|(refine Cur.alloc ?_ _))),grown_then G_ bel⟩
 ·skip
  have hkn2:¬(k:Int)<(n:Int):=by omega
  obtain ⟨x0a,x1a,x2a,xla⟩:=blk3 k_a
  obtain ⟨x0r,x1r,x2r,xlr⟩:=blk3 k_r
  have f0r:=(blk_cells k_r 0).2
  have f1r:=(blk_cells k_r 1).2
  have f2r:=(blk_cells k_r 2).2
  go_wp2
  refine bodyPost_ret (v:=.agg #[.int .i64 (k:Int),.int .i64 ((k:Int)+x1),.int .i64 (1+x2)]) (by simp [results,Tryz.results234,go_sem, *]) rfl ?_
  exact ⟨_,_,_,rfl,(by repeat (first|exact C_|(refine Cur.put_other ?_ (by simp;omega) (by simp;omega) _)|(refine Cur.alloc ?_ _))),grown_then G_ bel⟩
theorem card_bounds2 {d f:Int} {ss:List ByteArray} (h:cardOk d f ss=true):(1≤d∧d≤8∧1≤f∧f≤8)∧1≤ss.length:=by
 unfold cardOk at h
 simp only [Bool.and_eq_true] at h
 obtain ⟨⟨h1,h2⟩,h3,h4⟩:=h
 have e1:=inB_iff'.1 h1
 have e2:=inB_iff'.1 h2
 have e3:=inB_iff'.1 h3
 exact ⟨⟨by omega,by omega,by omega,by omega⟩,by omega⟩
theorem own_ncur {w:World} {lo hi c g B c0:Nat} {ad:Addr} {ss:List ByteArray} {A:Option Addr} {bs:List Int} (h:OwnS w lo hi (some ad) c ss) (hC:Cur w g B A c0 bs):ad.block≠g:=by
 intro he
 obtain ⟨i,q,_,_,hk⟩:=hC.blk
 rcases h.row.2 with ⟨hv,_⟩|⟨g1,_,_,hv,_,hg1,_⟩
 ·cases hv
 ·injection hv with e1
  injection e1 with e1
  subst e1
  rw [show g1=g from he] at hg1
  rw [hk] at hg1
  injection hg1 with q1
  injection q1 with _ q1
  exact cur_notin (by rw [q1];decide)
def K37 (w2:World) (g r B:Nat) (A:Option Addr) (c:Nat) (bs:List Int) (W:World):Prop :=
 Cur W g B A c bs∧Kept w2 W g r∧∃ z0 z1 z2 z3 z4 z5 z6:Value,W.heap[r]?=some (.cells #[z0,z1,z2,z3,z4,z5,z6] 167 (0,0))
theorem k37_store {w2 W:World} {x g r B:Nat} {A:Option Addr} {c:Nat} {bs:List Int} {p:Addr} {u:Value} (hx:x≠r) (hg:g≠r) (hB:B≤r) (hp:p.block≠r) (a0 a1 a2 a3 a4 a5 a6:Value)
  (h:(∀ o,W.cell? ⟨x,o,none⟩=w2.cell? ⟨x,o,none⟩)∧W.cell? p=some u∧K37 w2 g r B A c bs W) :
  (∀ o,(((((((W.setCell ⟨r,0,none⟩ a0).setCell ⟨r,1,none⟩ a1).setCell ⟨r,2,none⟩ a2).setCell ⟨r,3,none⟩ a3).setCell ⟨r,4,none⟩ a4).setCell ⟨r,5,none⟩ a5).setCell ⟨r,6,none⟩ a6).cell? ⟨x,o,none⟩=w2.cell? ⟨x,o,none⟩) ∧
   (((((((W.setCell ⟨r,0,none⟩ a0).setCell ⟨r,1,none⟩ a1).setCell ⟨r,2,none⟩ a2).setCell ⟨r,3,none⟩ a3).setCell ⟨r,4,none⟩ a4).setCell ⟨r,5,none⟩ a5).setCell ⟨r,6,none⟩ a6).cell? p=some u ∧
   K37 w2 g r B A c bs (((((((W.setCell ⟨r,0,none⟩ a0).setCell ⟨r,1,none⟩ a1).setCell ⟨r,2,none⟩ a2).setCell ⟨r,3,none⟩ a3).setCell ⟨r,4,none⟩ a4).setCell ⟨r,5,none⟩ a5).setCell ⟨r,6,none⟩ a6):=by
 obtain ⟨h1,h2,hC,hK,z0,z1,z2,z3,z4,z5,z6,hk⟩:=h
 have hne:∀ (W:World) (i:Nat) (v:Value) (q:Addr),q.block≠r→(W.setCell ⟨r,i,none⟩ v).cell? q=W.cell? q:=fun W i v q hq=>World.cell?_of_block (Below.heap_setCell _ _ _ _ (show q.block≠r from hq))
 refine ⟨fun o=>?_,?_,?_,?_,_,_,_,_,_,_,_,blk7_set hk _ _ _ _ _ _ _⟩
 ·rw [← h1 o,hne _ _ _ _ hx,hne _ _ _ _ hx,hne _ _ _ _ hx,hne _ _ _ _ hx,hne _ _ _ _ hx,hne _ _ _ _ hx,hne _ _ _ _ hx]
 ·rw [← h2,hne _ _ _ _ hp,hne _ _ _ _ hp,hne _ _ _ _ hp,hne _ _ _ _ hp,hne _ _ _ _ hp,hne _ _ _ _ hp,hne _ _ _ _ hp]
 ·iterate 7 (refine Cur.put_other ?_ (show g≠r from hg) hB _)
  exact hC
 ·exact ((((((hK.set _ _).set _ _).set _ _).set _ _).set _ _).set _ _).set _ _
set_option maxHeartbeats 3200000 in
theorem s_l37Step (d f:Int) (ss:List ByteArray) (A':Option Addr) (c' lo hi:Nat) (g B:Nat) (A:Option Addr) (c:Nat) (bs:List Int) (w:World) (hC:Cur w g B A c bs) (hO:OwnS w lo hi A' c' ss) (hn:ss.length≤10) (hz:∀ s∈ss,s.size≤16) :
  Calls Tryz.prog 184 #[.pointer (some ⟨g,0,none⟩),.agg #[.int .i64 d,.int .i64 f,.slice A' ss.length c']] w fun e w'=>∃ s:PStep,(s.b.size≤16777216∧s.a.size≤16777216)∧e=.returned (.agg #[.int .i64 s.K,.int .i64 s.F,.int .i64 s.L,.int .i64 s.T,.int .i64 s.I,.string s.b,.string s.a])∧Cur w' g B A c bs∧w.grownBy w' (some g):=by
 have hgw:=hC.lt
 have hlB:=hC.lo
 have hz':∀ s∈ss,s.size≤16777216:=fun s hs=>by have:=hz s hs;omega
 have HZ:=hide hz'
 have HZ16:=hide hz
 clear hz hz'
 have hcb:=fun h=>card_bounds2 (d:=d) (f:=f) (ss:=ss) h
 have hcok:=fun (W:World) (h:OwnS W lo hi A' c' ss)=>s_CardOk d f A' ss.length c' ss W (h.rd (by omega) HZ.out)
 have hbox:=fun (W:World) (h1:Cur W g B A c bs) (h:OwnS W lo hi A' c' ss)=>s_l11Box d f ss A' c' lo hi g B A c bs W h1 h hn HZ16.out
 obtain ⟨n,hnn⟩:∃ n,ss.length=n:=⟨_,rfl⟩
 have HN:=Lib.hid hnn
 rw [hnn] at hn hcok hcb hbox ⊢
 clear hnn
 have HCOK:=hide hcok
 have HBOX:=hide hbox
 clear hcok hbox
 have C_:=hC
 have G_:=World.grownBy.refl w (some g)
 have HOS:=hide (fun (W:World) (h:w.grownBy W (some g))=>hO.boxy (hC.boxy h))
 have HO:=hide hO
 clear hC hO
 go_enter Tryz.func184,Tryz.ntmps184
 go_wp2_with fail
 generalize e_:(World.alloc _ _)=w1
 symm at e_
 have z_:Below w.heap.size w w1:=by rw [e_];exact bel
 have k_a:w1.heap[w.heap.size]?=some (.cells #[.int .i64 d,.int .i64 f,.slice A' n c'] 26 (0,0)):=by rw [e_];exact (blk_alloc (blk_new_at _ _ (by simp)) _)
 have k_r:w1.heap[w.heap.size+1]?=some (.cells #[.int .i64 0,.int .i64 0,.int .i64 0,.int .i64 0,.int .i64 0,.string ⟨#[]⟩,.string ⟨#[]⟩] 167 (0,0)):=by rw [e_];exact (blk_new_at _ _ (by simp))
 replace C_:Cur w1 g B A c bs:=by rw [e_];exact ((C_.alloc _).alloc _)
 replace G_:w.grownBy w1 (some g):=grown_then G_ z_
 have s_w1:w.heap.size≤w1.heap.size:=by rw [e_];simp [World.setCell];try omega
 obtain ⟨ba,eb_⟩:∃ x,x=w.heap.size:=⟨_,rfl⟩
 rw [← eb_] at k_a
 have l_a:w.heap.size≤ba:=by omega
 have eb_a:=eb_;clear eb_
 obtain ⟨br,eb_⟩:∃ x,x=w.heap.size+1:=⟨_,rfl⟩
 rw [← eb_] at k_r
 have l_r:w.heap.size≤br:=by omega
 have d_ar:ba<br:=by omega
 have eb_r:=eb_;clear eb_
 clear e_ z_
 try rw [← eb_r]
 try rw [← eb_a]
 clear eb_a
 clear eb_r
 refine (s_l01Once 4 g B A c bs w1 C_ (by omega) (by omega)).mono ?_
 rintro e w2 ⟨b1,rfl,C2_,g_⟩
 replace k_a:=C_.blk_keep k_a (by omega) g_
 replace k_r:=C_.blk_keep k_r (by omega) g_
 replace G_:=only_trans G_ g_
 have s_w2:=g_.size
 clear C_ g_
 have C_:=C2_;clear C2_
 cases b1
 ·skip
  obtain ⟨x0a,x1a,x2a,xla⟩:=blk3 k_a
  go_wp2_with fail
  clear x0a x1a x2a xla
  refine (HBOX.out w2 C_ (HOS.out _ G_)).mono ?_
  rintro e w3 ⟨F,L,T,rfl,C2_,g_⟩
  replace k_a:=C_.blk_keep k_a (by omega) g_
  replace k_r:=C_.blk_keep k_r (by omega) g_
  replace G_:=only_trans G_ g_
  have s_w3:=g_.size
  clear C_ g_
  have C_:=C2_;clear C2_
  go_wp2_with fail
  have q_a:=blk_lt k_a
  have q_r:=blk_lt k_r
  generalize e_:(World.alloc _ _)=w4
  symm at e_
  have z_:Below w.heap.size w3 w4:=by rw [e_];exact bel
  replace k_a:=hkw e_ (blk_alloc k_a _)
  replace k_r:=hkw e_ (blk_alloc k_r _)
  have k_b:w4.heap[w3.heap.size]?=some (.cells #[.int .i64 F,.int .i64 L,.int .i64 T] 165 (0,0)):=by rw [e_];exact (blk_new_at _ _ (by simp))
  replace C_:Cur w4 g B A c bs:=by rw [e_];exact (C_.alloc _)
  replace G_:w.grownBy w4 (some g):=grown_then G_ z_
  have s_w4:w3.heap.size≤w4.heap.size:=by rw [e_];simp [World.setCell];try omega
  obtain ⟨bb,eb_⟩:∃ x,x=w3.heap.size:=⟨_,rfl⟩
  rw [← eb_] at k_b
  have l_b:w.heap.size≤bb:=by omega
  have d_ab:ba<bb:=by omega
  have d_rb:br<bb:=by omega
  have eb_b:=eb_;clear eb_
  clear e_ z_ q_a q_r
  try rw [← eb_b]
  clear eb_b
  refine (s_l01Once 3 g B A c bs w4 C_ (by omega) (by omega)).mono ?_
  rintro e w5 ⟨b3,rfl,C2_,g_⟩
  replace k_a:=C_.blk_keep k_a (by omega) g_
  replace k_r:=C_.blk_keep k_r (by omega) g_
  replace k_b:=C_.blk_keep k_b (by omega) g_
  replace G_:=only_trans G_ g_
  have s_w5:=g_.size
  clear C_ g_
  have C_:=C2_;clear C2_
  cases b3
  ·skip
   obtain ⟨x0b,x1b,x2b,xlb⟩:=blk3 k_b
   obtain ⟨x0r,x1r,x2r,x3r,x4r,x5r,x6r,xlr⟩:=blk7 k_r
   have f0r:=(blk_cells k_r 0).2
   have f1r:=(blk_cells k_r 1).2
   have f2r:=(blk_cells k_r 2).2
   have f3r:=(blk_cells k_r 3).2
   have f4r:=(blk_cells k_r 4).2
   have f5r:=(blk_cells k_r 5).2
   have f6r:=(blk_cells k_r 6).2
   go_wp2
   refine bodyPost_ret (v:=.agg #[.int .i64 1,.int .i64 F,.int .i64 L,.int .i64 T,.int .i64 0,.string ⟨#[]⟩,.string ⟨#[]⟩]) (by simp [results,Tryz.results184,go_sem, *]) rfl ?_
   exact ⟨⟨1,F,L,T,0,⟨#[]⟩,⟨#[]⟩⟩,⟨Nat.zero_le _,Nat.zero_le _⟩,rfl,(by repeat (first|(with_reducible exact C_)|(refine Cur.put_other ?_ (by simp;omega) (by simp;omega) _)|(refine Cur.alloc ?_ _))),grown_then G_ bel⟩
  ·skip
   obtain ⟨x0b,x1b,x2b,xlb⟩:=blk3 k_b
   obtain ⟨x0r,x1r,x2r,x3r,x4r,x5r,x6r,xlr⟩:=blk7 k_r
   have f0r:=(blk_cells k_r 0).2
   have f1r:=(blk_cells k_r 1).2
   have f2r:=(blk_cells k_r 2).2
   have f3r:=(blk_cells k_r 3).2
   have f4r:=(blk_cells k_r 4).2
   have f5r:=(blk_cells k_r 5).2
   have f6r:=(blk_cells k_r 6).2
   go_wp2
   refine bodyPost_ret (v:=.agg #[.int .i64 2,.int .i64 F,.int .i64 L,.int .i64 T,.int .i64 0,.string ⟨#[]⟩,.string ⟨#[]⟩]) (by simp [results,Tryz.results184,go_sem, *]) rfl ?_
   exact ⟨⟨2,F,L,T,0,⟨#[]⟩,⟨#[]⟩⟩,⟨Nat.zero_le _,Nat.zero_le _⟩,rfl,(by repeat (first|(with_reducible exact C_)|(refine Cur.put_other ?_ (by simp;omega) (by simp;omega) _)|(refine Cur.alloc ?_ _))),grown_then G_ bel⟩
 ·skip
  obtain ⟨x0a,x1a,x2a,xla⟩:=blk3 k_a
  go_wp2_with fail
  clear x0a x1a x2a xla
  refine (HCOK.out w2 (HOS.out _ G_)).mono ?_
  rintro e w3 ⟨rfl,z_⟩
  replace k_a:=blk_next k_a z_
  replace k_r:=blk_next k_r z_
  replace C_:=C_.below z_
  replace G_:=grown_then G_ (z_.mono G_.size)
  have s_w3:=z_.size
  clear z_
  cases hck:cardOk d f ss
  ·skip
   clear hck hcb
   obtain ⟨x0a,x1a,x2a,xla⟩:=blk3 k_a
   go_wp2_with fail
   clear x0a x1a x2a xla
   refine (HBOX.out w3 C_ (HOS.out _ G_)).mono ?_
   rintro e w4 ⟨F,L,T,rfl,C2_,g_⟩
   replace k_a:=C_.blk_keep k_a (by omega) g_
   replace k_r:=C_.blk_keep k_r (by omega) g_
   replace G_:=only_trans G_ g_
   have s_w4:=g_.size
   clear C_ g_
   have C_:=C2_;clear C2_
   go_wp2_with fail
   have q_a:=blk_lt k_a
   have q_r:=blk_lt k_r
   generalize e_:(World.alloc _ _)=w5
   symm at e_
   have z_:Below w.heap.size w4 w5:=by rw [e_];exact bel
   replace k_a:=hkw e_ (blk_alloc k_a _)
   replace k_r:=hkw e_ (blk_alloc k_r _)
   have k_b:w5.heap[w4.heap.size]?=some (.cells #[.int .i64 F,.int .i64 L,.int .i64 T] 165 (0,0)):=by rw [e_];exact (blk_new_at _ _ (by simp))
   replace C_:Cur w5 g B A c bs:=by rw [e_];exact (C_.alloc _)
   replace G_:w.grownBy w5 (some g):=grown_then G_ z_
   have s_w5:w4.heap.size≤w5.heap.size:=by rw [e_];simp [World.setCell];try omega
   obtain ⟨bb,eb_⟩:∃ x,x=w4.heap.size:=⟨_,rfl⟩
   rw [← eb_] at k_b
   have l_b:w.heap.size≤bb:=by omega
   have d_ab:ba<bb:=by omega
   have d_rb:br<bb:=by omega
   have eb_b:=eb_;clear eb_
   clear e_ z_ q_a q_r
   try rw [← eb_b]
   clear eb_b
   refine (s_l01Once 3 g B A c bs w5 C_ (by omega) (by omega)).mono ?_
   rintro e w6 ⟨b3,rfl,C2_,g_⟩
   replace k_a:=C_.blk_keep k_a (by omega) g_
   replace k_r:=C_.blk_keep k_r (by omega) g_
   replace k_b:=C_.blk_keep k_b (by omega) g_
   replace G_:=only_trans G_ g_
   have s_w6:=g_.size
   clear C_ g_
   have C_:=C2_;clear C2_
   cases b3
   ·skip
    obtain ⟨x0b,x1b,x2b,xlb⟩:=blk3 k_b
    obtain ⟨x0r,x1r,x2r,x3r,x4r,x5r,x6r,xlr⟩:=blk7 k_r
    have f0r:=(blk_cells k_r 0).2
    have f1r:=(blk_cells k_r 1).2
    have f2r:=(blk_cells k_r 2).2
    have f3r:=(blk_cells k_r 3).2
    have f4r:=(blk_cells k_r 4).2
    have f5r:=(blk_cells k_r 5).2
    have f6r:=(blk_cells k_r 6).2
    go_wp2
    refine bodyPost_ret (v:=.agg #[.int .i64 1,.int .i64 F,.int .i64 L,.int .i64 T,.int .i64 0,.string ⟨#[]⟩,.string ⟨#[]⟩]) (by simp [results,Tryz.results184,go_sem, *]) rfl ?_
    exact ⟨⟨1,F,L,T,0,⟨#[]⟩,⟨#[]⟩⟩,⟨Nat.zero_le _,Nat.zero_le _⟩,rfl,(by repeat (first|(with_reducible exact C_)|(refine Cur.put_other ?_ (by simp;omega) (by simp;omega) _)|(refine Cur.alloc ?_ _))),grown_then G_ bel⟩
   ·skip
    obtain ⟨x0b,x1b,x2b,xlb⟩:=blk3 k_b
    obtain ⟨x0r,x1r,x2r,x3r,x4r,x5r,x6r,xlr⟩:=blk7 k_r
    have f0r:=(blk_cells k_r 0).2
    have f1r:=(blk_cells k_r 1).2
    have f2r:=(blk_cells k_r 2).2
    have f3r:=(blk_cells k_r 3).2
    have f4r:=(blk_cells k_r 4).2
    have f5r:=(blk_cells k_r 5).2
    have f6r:=(blk_cells k_r 6).2
    go_wp2
    refine bodyPost_ret (v:=.agg #[.int .i64 2,.int .i64 F,.int .i64 L,.int .i64 T,.int .i64 0,.string ⟨#[]⟩,.string ⟨#[]⟩]) (by simp [results,Tryz.results184,go_sem, *]) rfl ?_
    exact ⟨⟨2,F,L,T,0,⟨#[]⟩,⟨#[]⟩⟩,⟨Nat.zero_le _,Nat.zero_le _⟩,rfl,(by repeat (first|(with_reducible exact C_)|(refine Cur.put_other ?_ (by simp;omega) (by simp;omega) _)|(refine Cur.alloc ?_ _))),grown_then G_ bel⟩
  ·skip
   obtain ⟨hdf,hn1⟩:=hcb hck
   clear hck hcb
   obtain ⟨d,rfl⟩:∃ d':Nat,d=d':=⟨d.toNat,by omega⟩
   obtain ⟨f,rfl⟩:∃ f':Nat,f=f':=⟨f.toNat,by omega⟩
   obtain ⟨x0a,x1a,x2a,xla⟩:=blk3 k_a
   go_wp2_with fail
   clear x0a x1a x2a xla
   refine (s_l01Below n g B A c bs w3 C_ (by omega) (by omega)).mono ?_
   rintro e w4 ⟨k0,rfl,hk0,hk1,C2_,g_⟩
   replace k_a:=C_.blk_keep k_a (by omega) g_
   replace k_r:=C_.blk_keep k_r (by omega) g_
   replace G_:=only_trans G_ g_
   have s_w4:=g_.size
   clear C_ g_
   have C_:=C2_;clear C2_
   obtain ⟨k,rfl⟩:∃ k:Nat,k0=k:=⟨k0.toNat,by omega⟩
   have hkl:k<ss.length:=by rw [HN.out];omega
   obtain ⟨ad,hA,hab,hlo2,hcw⟩:=own_at HO.out (k:=k) hkl
   obtain ⟨ad2,hA2,hab2,hlo3,hcs⟩:=own_at (HOS.out _ G_) (k:=k) hkl
   clear hcw hlo2 hlo3 hab2
   subst hA
   injection hA2 with hA2
   subst hA2
   have hs16:=HZ16.out _ (List.getElem_mem hkl)
   generalize ss[k]=sk at *
   have hk2:(k:Int)<(n:Int):=by omega
   have hk3:k<n:=by omega
   obtain ⟨x0a,x1a,x2a,xla⟩:=blk3 k_a
   go_wp2
   have hbk:(ad.add k).block=ad.block:=block_add ad k
   have hbr:(ad.add k).block≠br:=by rw [hbk];omega
   have hbg:(ad.add k).block≠g:=by rw [hbk];exact own_ncur (HOS.out _ G_) C_
   clear hbk
   have hx1:ba≠br:=by omega
   have hx2:g≠br:=by omega
   have hx3:B≤br:=by omega
   have S0:(∀ o,w4.drew.cell? ⟨ba,o,none⟩=w4.cell? ⟨ba,o,none⟩)∧w4.drew.cell? (ad.add k)=some (.string sk)∧K37 w4 g br B A c bs w4.drew:=⟨fun _=>rfl,hcs,C_.drew,(Kept.refl _ _ _).drew,_,_,_,_,_,_,_,k_r⟩
   have arm1:∀ W:World,((∀ o,W.cell? ⟨ba,o,none⟩=w4.cell? ⟨ba,o,none⟩)∧W.cell? (ad.add k)=some (.string sk)∧K37 w4 g br B A c bs W)→Calls Tryz.prog 232 #[.pointer (some ⟨g,0,none⟩),.int .i64 (d:Int),.int .i64 (f:Int)] W fun e w'=>∃ s,s.size≤16777216∧e=.returned (.string s)∧((∀ o,w'.cell? ⟨ba,o,none⟩=w4.cell? ⟨ba,o,none⟩)∧w'.cell? (ad.add k)=some (.string sk)∧K37 w4 g br B A c bs w'):=by
    intro W hq
    refine (s_l02Draw d f g B A c bs W hq.2.2.1 (by omega) (by omega)).mono ?_
    rintro e wa ⟨s,rfl,hD,hCa,hga⟩
    obtain ⟨q1,q2,qC,qK,z0,z1,z2,z3,z4,z5,z6,qk⟩:=hq
    have hbaW:ba<W.heap.size:=Nat.lt_of_lt_of_le (blk_lt k_a) qK.size
    refine ⟨s,by have:=hD.2.2;omega,rfl,fun o=>?_,?_,hCa,qK.drawn hga,z0,z1,z2,z3,z4,z5,z6,qC.blk_keep qk (by omega) hga⟩
    ·exact (World.cell?_of_block (hga.block ba hbaW (fun e=>by injection e with e;omega))).trans (q1 o)
    ·exact (World.cell?_of_block (hga.block (ad.add k).block (World.block_lt_of_cell? W _ q2) (fun e=>hbg (Option.some.inj e)))).trans q2
   go_region_held3 (fun W=>(∀ o,W.cell? ⟨ba,o,none⟩=w4.cell? ⟨ba,o,none⟩)∧W.cell? (ad.add k)=some (.string sk)∧K37 w4 g br B A c bs W)
    (first|(with_reducible exact S0)|(with_reducible exact hSa)|(with_reducible exact k37_store hx1 hx2 hx3 hbr _ _ _ _ _ _ _ hSa))
    (first|(go_at_call 232;refine (arm1 _ (by with_reducible assumption)).mono ?_;rintro e wa ⟨s,hsz,rfl,hSa⟩;obtain ⟨z0,z1,z2,z3,z4,z5,z6,hkrb⟩:=hSa.2.2.2.2;obtain ⟨hy0,hy1,hy2,hy3,hy4,hy5,hy6,hyl⟩:=blk7 hkrb;have hz0:=(blk_cells hkrb 0).2;have hz1:=(blk_cells hkrb 1).2;have hz2:=(blk_cells hkrb 2).2;have hz3:=(blk_cells hkrb 3).2;have hz4:=(blk_cells hkrb 4).2;have hz5:=(blk_cells hkrb 5).2;have hz6:=(blk_cells hkrb 6).2))
   all_goals (
    have hF:=k37_store (x:=ba) (p:=ad.add k) hx1 hx2 hx3 hbr (.int .i64 3) (.int .i64 0) (.int .i64 0) (.int .i64 0) (.int .i64 (k:Int)) (.string sk) (.string s) hSa
    go_wp2
    refine bodyPost_ret (v:=.agg #[.int .i64 3,.int .i64 0,.int .i64 0,.int .i64 0,.int .i64 (k:Int),.string sk,.string s]) (by simp [results,Tryz.results184,go_sem, *]) rfl ?_
    exact ⟨⟨3,0,0,0,k,sk,s⟩,⟨by show sk.size≤_;omega,hsz⟩,rfl,hF.2.2.1,hF.2.2.2.1.grown G_ l_r⟩)
end Go.Proofs.YtlimlolciekimaaGreatDoor
