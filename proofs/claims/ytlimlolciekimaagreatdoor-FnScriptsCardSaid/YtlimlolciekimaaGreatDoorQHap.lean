/- Contracts of the program's and the reference's functions (Draw11v, Draw12v). -/
import Derived.Test.YtlimlolciekimaaGreatDoorRows
import Derived.Test.YtlimlolciekimaaGreatDoorQHw
import Derived.Test.YtlimlolciekimaaGreatDoorQHo
namespace Go.Proofs.YtlimlolciekimaaGreatDoor
set_option maxHeartbeats 1600000
open Go.ChangeShapes Go.WideShapes Go.ChangeAt Go.RowKit
set_option linter.unusedVariables false
set_option linter.unusedSimpArgs false
set_option maxRecDepth 10000
def GoodL (la:List PAct):Prop:=la.length≤13∧∀ x∈la,actOk x.k x.a x.b=true
set_option maxHeartbeats 6400000 in
theorem s_l39ActV (g B:Nat) (A:Option Addr) (c:Nat) (bs:List Int) (w:World) (hC:Cur w g B A c bs) :
  Calls Tryz.prog 80 #[.pointer (some ⟨g,0,none⟩)] w fun e w'=>∃ a:PAct,actOk a.k a.a a.b=true∧e=.returned (.agg #[.int .i64 a.k,.int .i64 a.a,.int .i64 a.b])∧Cur w' g B A c bs∧w.grownBy w' (some g):=by
 have hgw:=hC.lt
 have hlB:=hC.lo
 have C_:=hC
 have G_:=World.grownBy.refl w (some g)
 clear hC
 go_enter Tryz.func80,Tryz.ntmps80
 go_wp2_with fail
 generalize e_:(World.alloc _ _)=w1
 symm at e_
 have z_:Below w.heap.size w w1:=by rw [e_];exact bel
 have k_r:w1.heap[w.heap.size]?=some (.cells #[.int .i64 0,.int .i64 0,.int .i64 0] 61 (0,0)):=by rw [e_];exact (blk_new_at _ _ (by simp))
 replace C_:Cur w1 g B A c bs:=by rw [e_];exact (C_.alloc _)
 replace G_:w.grownBy w1 (some g):=grown_then G_ z_
 have s_w1:w.heap.size≤w1.heap.size:=by rw [e_];simp [World.setCell];try omega
 obtain ⟨br,eb_⟩:∃ x,x=w.heap.size:=⟨_,rfl⟩
 rw [← eb_] at k_r
 have l_r:w.heap.size≤br:=by omega
 have eb_r:=eb_;clear eb_
 clear e_ z_
 try rw [← eb_r]
 clear eb_r
 refine (s_l01Below 10 g B A c bs w1 C_ (by omega) (by omega)).mono ?_
 rintro e w2 ⟨x,rfl,hx0,hx1,C2_,g_⟩
 replace k_r:=C_.blk_keep k_r (by omega) g_
 replace G_:=only_trans G_ g_
 have s_w2:=g_.size
 clear C_ g_
 have C_:=C2_;clear C2_
 rcases (show x=0∨x=1∨x=2∨x=3∨x=4∨x=5∨x=6∨x=7∨x=8∨x=9 by omega) with rfl|rfl|rfl|rfl|rfl|rfl|rfl|rfl|rfl|rfl
 ·skip
  go_wp2_with fail
  refine (s_l01Below 6 g B A c bs w2 C_ (by omega) (by omega)).mono ?_
  rintro e w3 ⟨y,rfl,hy0,hy1,C2_,g_⟩
  replace k_r:=C_.blk_keep k_r (by omega) g_
  replace G_:=only_trans G_ g_
  have s_w3:=g_.size
  clear C_ g_
  have C_:=C2_;clear C2_
  go_wp2_with fail
  refine (s_l01Below 7 g B A c bs w3 C_ (by omega) (by omega)).mono ?_
  rintro e w4 ⟨z,rfl,hz0,hz1,C2_,g_⟩
  replace k_r:=C_.blk_keep k_r (by omega) g_
  replace G_:=only_trans G_ g_
  have s_w4:=g_.size
  clear C_ g_
  have C_:=C2_;clear C2_
  obtain ⟨x0r,x1r,x2r,xlr⟩:=blk3 k_r
  have f0r:=(blk_cells k_r 0).2
  have f1r:=(blk_cells k_r 1).2
  have f2r:=(blk_cells k_r 2).2
  go_wp2
  refine bodyPost_ret (v:=.agg #[.int .i64 1,.int .i64 y,.int .i64 (1+z)]) (by simp [results,Tryz.results80,go_sem, *]) rfl ?_
  exact ⟨⟨1,y,1+z⟩,(by unfold actOk inB;simp <;> omega),rfl,(by repeat (first|exact C_|(refine Cur.put_other ?_ (by simp;omega) (by simp;omega) _))),grown_then G_ bel⟩
 ·skip
  go_wp2_with fail
  refine (s_l01Below 6 g B A c bs w2 C_ (by omega) (by omega)).mono ?_
  rintro e w3 ⟨y,rfl,hy0,hy1,C2_,g_⟩
  replace k_r:=C_.blk_keep k_r (by omega) g_
  replace G_:=only_trans G_ g_
  have s_w3:=g_.size
  clear C_ g_
  have C_:=C2_;clear C2_
  go_wp2_with fail
  refine (s_l01Below 7 g B A c bs w3 C_ (by omega) (by omega)).mono ?_
  rintro e w4 ⟨z,rfl,hz0,hz1,C2_,g_⟩
  replace k_r:=C_.blk_keep k_r (by omega) g_
  replace G_:=only_trans G_ g_
  have s_w4:=g_.size
  clear C_ g_
  have C_:=C2_;clear C2_
  obtain ⟨x0r,x1r,x2r,xlr⟩:=blk3 k_r
  have f0r:=(blk_cells k_r 0).2
  have f1r:=(blk_cells k_r 1).2
  have f2r:=(blk_cells k_r 2).2
  go_wp2
  refine bodyPost_ret (v:=.agg #[.int .i64 1,.int .i64 y,.int .i64 (1+z)]) (by simp [results,Tryz.results80,go_sem, *]) rfl ?_
  exact ⟨⟨1,y,1+z⟩,(by unfold actOk inB;simp <;> omega),rfl,(by repeat (first|exact C_|(refine Cur.put_other ?_ (by simp;omega) (by simp;omega) _))),grown_then G_ bel⟩
 ·skip
  go_wp2_with fail
  refine (s_l01Below 6 g B A c bs w2 C_ (by omega) (by omega)).mono ?_
  rintro e w3 ⟨y,rfl,hy0,hy1,C2_,g_⟩
  replace k_r:=C_.blk_keep k_r (by omega) g_
  replace G_:=only_trans G_ g_
  have s_w3:=g_.size
  clear C_ g_
  have C_:=C2_;clear C2_
  go_wp2_with fail
  refine (s_l01Below 7 g B A c bs w3 C_ (by omega) (by omega)).mono ?_
  rintro e w4 ⟨z,rfl,hz0,hz1,C2_,g_⟩
  replace k_r:=C_.blk_keep k_r (by omega) g_
  replace G_:=only_trans G_ g_
  have s_w4:=g_.size
  clear C_ g_
  have C_:=C2_;clear C2_
  obtain ⟨x0r,x1r,x2r,xlr⟩:=blk3 k_r
  have f0r:=(blk_cells k_r 0).2
  have f1r:=(blk_cells k_r 1).2
  have f2r:=(blk_cells k_r 2).2
  go_wp2
  refine bodyPost_ret (v:=.agg #[.int .i64 1,.int .i64 y,.int .i64 (1+z)]) (by simp [results,Tryz.results80,go_sem, *]) rfl ?_
  exact ⟨⟨1,y,1+z⟩,(by unfold actOk inB;simp <;> omega),rfl,(by repeat (first|exact C_|(refine Cur.put_other ?_ (by simp;omega) (by simp;omega) _))),grown_then G_ bel⟩
 ·skip
  go_wp2_with fail
  refine (s_l01Below 6 g B A c bs w2 C_ (by omega) (by omega)).mono ?_
  rintro e w3 ⟨y,rfl,hy0,hy1,C2_,g_⟩
  replace k_r:=C_.blk_keep k_r (by omega) g_
  replace G_:=only_trans G_ g_
  have s_w3:=g_.size
  clear C_ g_
  have C_:=C2_;clear C2_
  go_wp2_with fail
  refine (s_l01Below 7 g B A c bs w3 C_ (by omega) (by omega)).mono ?_
  rintro e w4 ⟨z,rfl,hz0,hz1,C2_,g_⟩
  replace k_r:=C_.blk_keep k_r (by omega) g_
  replace G_:=only_trans G_ g_
  have s_w4:=g_.size
  clear C_ g_
  have C_:=C2_;clear C2_
  obtain ⟨x0r,x1r,x2r,xlr⟩:=blk3 k_r
  have f0r:=(blk_cells k_r 0).2
  have f1r:=(blk_cells k_r 1).2
  have f2r:=(blk_cells k_r 2).2
  go_wp2
  refine bodyPost_ret (v:=.agg #[.int .i64 2,.int .i64 y,.int .i64 (1+z)]) (by simp [results,Tryz.results80,go_sem, *]) rfl ?_
  exact ⟨⟨2,y,1+z⟩,(by unfold actOk inB;simp <;> omega),rfl,(by repeat (first|exact C_|(refine Cur.put_other ?_ (by simp;omega) (by simp;omega) _))),grown_then G_ bel⟩
 ·skip
  obtain ⟨x0r,x1r,x2r,xlr⟩:=blk3 k_r
  have f0r:=(blk_cells k_r 0).2
  have f1r:=(blk_cells k_r 1).2
  have f2r:=(blk_cells k_r 2).2
  go_wp2
  refine bodyPost_ret (v:=.agg #[.int .i64 3,.int .i64 0,.int .i64 0]) (by simp [results,Tryz.results80,go_sem, *]) rfl ?_
  exact ⟨⟨3,0,0⟩,(by decide),rfl,(by repeat (first|exact C_|(refine Cur.put_other ?_ (by simp;omega) (by simp;omega) _))),grown_then G_ bel⟩
 ·skip
  go_wp2_with fail
  refine (s_l01Below 3 g B A c bs w2 C_ (by omega) (by omega)).mono ?_
  rintro e w3 ⟨y,rfl,hy0,hy1,C2_,g_⟩
  replace k_r:=C_.blk_keep k_r (by omega) g_
  replace G_:=only_trans G_ g_
  have s_w3:=g_.size
  clear C_ g_
  have C_:=C2_;clear C2_
  go_wp2_with fail
  refine (s_l01Below 20 g B A c bs w3 C_ (by omega) (by omega)).mono ?_
  rintro e w4 ⟨z,rfl,hz0,hz1,C2_,g_⟩
  replace k_r:=C_.blk_keep k_r (by omega) g_
  replace G_:=only_trans G_ g_
  have s_w4:=g_.size
  clear C_ g_
  have C_:=C2_;clear C2_
  obtain ⟨x0r,x1r,x2r,xlr⟩:=blk3 k_r
  have f0r:=(blk_cells k_r 0).2
  have f1r:=(blk_cells k_r 1).2
  have f2r:=(blk_cells k_r 2).2
  go_wp2
  refine bodyPost_ret (v:=.agg #[.int .i64 4,.int .i64 y,.int .i64 (1+z)]) (by simp [results,Tryz.results80,go_sem, *]) rfl ?_
  exact ⟨⟨4,y,1+z⟩,(by unfold actOk inB;simp <;> omega),rfl,(by repeat (first|exact C_|(refine Cur.put_other ?_ (by simp;omega) (by simp;omega) _))),grown_then G_ bel⟩
 ·skip
  go_wp2_with fail
  refine (s_l01Below 3 g B A c bs w2 C_ (by omega) (by omega)).mono ?_
  rintro e w3 ⟨y,rfl,hy0,hy1,C2_,g_⟩
  replace k_r:=C_.blk_keep k_r (by omega) g_
  replace G_:=only_trans G_ g_
  have s_w3:=g_.size
  clear C_ g_
  have C_:=C2_;clear C2_
  obtain ⟨x0r,x1r,x2r,xlr⟩:=blk3 k_r
  have f0r:=(blk_cells k_r 0).2
  have f1r:=(blk_cells k_r 1).2
  have f2r:=(blk_cells k_r 2).2
  go_wp2
  refine bodyPost_ret (v:=.agg #[.int .i64 5,.int .i64 y,.int .i64 0]) (by simp [results,Tryz.results80,go_sem, *]) rfl ?_
  exact ⟨⟨5,y,0⟩,(by unfold actOk inB;simp <;> omega),rfl,(by repeat (first|exact C_|(refine Cur.put_other ?_ (by simp;omega) (by simp;omega) _))),grown_then G_ bel⟩
 ·skip
  go_wp2_with fail
  refine (s_l01Below 3 g B A c bs w2 C_ (by omega) (by omega)).mono ?_
  rintro e w3 ⟨y,rfl,hy0,hy1,C2_,g_⟩
  replace k_r:=C_.blk_keep k_r (by omega) g_
  replace G_:=only_trans G_ g_
  have s_w3:=g_.size
  clear C_ g_
  have C_:=C2_;clear C2_
  go_wp2_with fail
  refine (s_l01Below 12 g B A c bs w3 C_ (by omega) (by omega)).mono ?_
  rintro e w4 ⟨z,rfl,hz0,hz1,C2_,g_⟩
  replace k_r:=C_.blk_keep k_r (by omega) g_
  replace G_:=only_trans G_ g_
  have s_w4:=g_.size
  clear C_ g_
  have C_:=C2_;clear C2_
  obtain ⟨x0r,x1r,x2r,xlr⟩:=blk3 k_r
  have f0r:=(blk_cells k_r 0).2
  have f1r:=(blk_cells k_r 1).2
  have f2r:=(blk_cells k_r 2).2
  go_wp2
  refine bodyPost_ret (v:=.agg #[.int .i64 6,.int .i64 y,.int .i64 (1+z)]) (by simp [results,Tryz.results80,go_sem, *]) rfl ?_
  exact ⟨⟨6,y,1+z⟩,(by unfold actOk inB;simp <;> omega),rfl,(by repeat (first|exact C_|(refine Cur.put_other ?_ (by simp;omega) (by simp;omega) _))),grown_then G_ bel⟩
 ·skip
  go_wp2_with fail
  refine (s_l01Below 3 g B A c bs w2 C_ (by omega) (by omega)).mono ?_
  rintro e w3 ⟨y,rfl,hy0,hy1,C2_,g_⟩
  replace k_r:=C_.blk_keep k_r (by omega) g_
  replace G_:=only_trans G_ g_
  have s_w3:=g_.size
  clear C_ g_
  have C_:=C2_;clear C2_
  obtain ⟨x0r,x1r,x2r,xlr⟩:=blk3 k_r
  have f0r:=(blk_cells k_r 0).2
  have f1r:=(blk_cells k_r 1).2
  have f2r:=(blk_cells k_r 2).2
  go_wp2
  refine bodyPost_ret (v:=.agg #[.int .i64 7,.int .i64 y,.int .i64 0]) (by simp [results,Tryz.results80,go_sem, *]) rfl ?_
  exact ⟨⟨7,y,0⟩,(by unfold actOk inB;simp <;> omega),rfl,(by repeat (first|exact C_|(refine Cur.put_other ?_ (by simp;omega) (by simp;omega) _))),grown_then G_ bel⟩
 ·skip
  obtain ⟨x0r,x1r,x2r,xlr⟩:=blk3 k_r
  have f0r:=(blk_cells k_r 0).2
  have f1r:=(blk_cells k_r 1).2
  have f2r:=(blk_cells k_r 2).2
  go_wp2
  refine bodyPost_ret (v:=.agg #[.int .i64 8,.int .i64 0,.int .i64 0]) (by simp [results,Tryz.results80,go_sem, *]) rfl ?_
  exact ⟨⟨8,0,0⟩,(by decide),rfl,(by repeat (first|exact C_|(refine Cur.put_other ?_ (by simp;omega) (by simp;omega) _))),grown_then G_ bel⟩
set_option maxHeartbeats 6400000 in
theorem s_l39ListV (g B:Nat) (A:Option Addr) (c:Nat) (bs:List Int) (w:World) (hC:Cur w g B A c bs) :
  Calls Tryz.prog 38 #[.pointer (some ⟨g,0,none⟩)] w fun e w'=>∃ (la:List PAct) (Aa:Option Addr) (ca:Nat),GoodL la∧e=.returned (.slice Aa la.length ca)∧OwnA w' w.heap.size w'.heap.size Aa ca la∧Cur w' g B A c bs∧w.grownBy w' (some g):=by
 have hgw:=hC.lt
 have hlB:=hC.lo
 obtain ⟨i0,hi0,hz0,hz1,hz2⟩:=info_parts info_actCells
 go_enter Tryz.func38,Tryz.ntmps38
 go_wp2_with fail
 have hO0:(w.alloc (.cells #[] 61)).ownsRow w.heap.size 61 3 (.slice (some ⟨w.heap.size,0,none⟩) 0 0) 0 []:=World.ownsRow_made w #[] 0 (Nat.le_refl _) (by unfold maxLen;omega) rfl
 have C0:=hC.alloc (.cells #[] 61)
 have G0:w.grownBy (w.alloc (.cells #[] 61)) (some g):=grown_then (World.grownBy.refl w _) bel
 generalize w.alloc (.cells #[] 61)=w0 at *
 refine (s_l01Below 14 g B A c bs w0 C0 (by omega) (by omega)).mono ?_
 rintro e w1 ⟨n0,rfl,hn0,hn1,C_,g_⟩
 obtain ⟨n,rfl⟩:∃ n:Nat,n0=n:=⟨n0.toNat,by omega⟩
 have hO1:=own_boxy hO0 (by decide) (C0.boxy g_)
 have G_:=only_trans G0 g_
 clear C0 G0 g_ hO0 hC
 go_wp2
 go_loopw [3,5] (fun o q wr=>∃ (j N:Nat) (la:List PAct) (A':Option Addr) (c':Nat),j≤n∧(N≤j∧j≤N)∧q=.int .i64 (j:Int)∧Hid (∀ x∈la,actOk x.k x.a x.b=true)∧o=.slice A' N c'∧Hid (la.length=N)∧wr.ownsRow w.heap.size 61 3 (.slice A' N c') N (la.flatMap actCells)∧Cur wr g B A c bs∧w.grownBy wr (some g)) (fun _ q _=>n - (intOf q).toNat)
 case atStart=>exact ⟨0,0,[],_,_,Nat.zero_le _,⟨Nat.le_refl _,Nat.le_refl _⟩,rfl,(by intro x hx;cases hx),rfl,rfl,hO1,C_,G_⟩
 case round =>
  clear hO1 C_ G_
  obtain ⟨j,N,la,A',c',hj,⟨hNj1,hNj2⟩,rfl,HV,rfl,HL,hown,C_,G_⟩:=hrel
  have hsw:=G_.size
  by_cases hlt:j<n
  ·go_wp2_with fail
   refine (s_l39ActV g B A c bs wr C_).mono ?_
   rintro e w2 ⟨a,hok,rfl,C2,g2⟩
   have HV2:Hid (∀ x∈la++[a],actOk x.k x.a x.b=true):=by
    intro x hx
    rcases List.mem_append.1 hx with h|h
    ·exact HV.out x h
    ·simp at h;subst h;exact hok
   clear hok
   have ho2:=own_boxy hown (by decide) (C_.boxy g2)
   have G2:=only_trans G_ g2
   have hs2:=g2.size
   clear hown C_ G_ g2
   have hone:=one_act a
   have HONE:=hide hone
   clear hone
   obtain ⟨ak,hak⟩:∃ x,a.k=x:=⟨_,rfl⟩
   obtain ⟨aa,haa⟩:∃ x,a.a=x:=⟨_,rfl⟩
   obtain ⟨ab,hab⟩:∃ x,a.b=x:=⟨_,rfl⟩
   have HSN:=Lib.hid (acts_snocD la a)
   rw [hak,haa,hab] at HONE HSN ⊢
   clear hak haa hab
   go_upto_region 7 with fail
   have kA:=blk_new w2 (.cells #[.int .i64 ak,.int .i64 aa,.int .i64 ab] 61)
   have C3:=C2.alloc (.cells #[.int .i64 ak,.int .i64 aa,.int .i64 ab] 61)
   have ho3:=ho2.alloc (.cells #[.int .i64 ak,.int .i64 aa,.int .i64 ab] 61)
   have G3:w.grownBy (w2.alloc (.cells #[.int .i64 ak,.int .i64 aa,.int .i64 ab] 61)) (some g):=grown_then G2 bel
   generalize w2.alloc (.cells #[.int .i64 ak,.int .i64 aa,.int .i64 ab] 61)=w3 at *
   have hs3:=G3.size
   have hgO:=C3.lt
   obtain ⟨y0,y1,y2,yl⟩:=blk3 kA
   clear C2 ho2 G2
   have hn13:n≤13:=by omega
   go_wp2_with (at_builtin;refine wpList_append_N _ rfl (.tmp 17) (.tmp 19) _ rfl w.heap.size 61 i0 _ 3 24 Tryz.underlying34 hi0 hz0 hz1 hz2 rfl (by omega) (.slice A' N c') N _ rfl (ho3.alloc _) (w3.heap.size+1) (some ⟨w3.heap.size,0,none⟩) 1 1 [.int .i64 ak,.int .i64 aa,.int .i64 ab] rfl (reads_new w3 #[.int .i64 ak,.int .i64 aa,.int .i64 ab] 61 1 3 rfl) (unhide HONE) ?_ ?_ ?_ (N+1) _ rfl HSN.out ?_;(unfold maxLen;omega);omega;(simp;omega);intro A2 c2 w5 ho5 hb5)
   go_roundw
   case rel =>
    have C5:=(C3.alloc (.cells #[.int .i64 ak,.int .i64 aa,.int .i64 ab] 61)).below2 hb5 (by omega)
    exact ⟨j+1,N+1,la++[a],A2,c2,by omega,⟨by omega,by omega⟩,by go_num,HV2,rfl,by unfold Hid;simp [HL.out],ho5,C5,grown_then (grown_then G3 ((Below.refl _ _).alloc hs3 (.cells #[.int .i64 ak,.int .i64 aa,.int .i64 ab] 61))) hb5⟩
   case measure=>simp [intOf];omega
  ·have hjn:j=n:=by omega
   subst hjn
   go_wp2
   go_ret
   have hl:=HL.out
   subst hl
   exact ⟨la,A',c',⟨by omega,HV.out⟩,rfl,OwnA.of hown (Nat.le_refl _),C_,G_⟩
set_option maxHeartbeats 6400000 in
theorem s_DrawActsV (B:Nat) (A:Option Addr) (c:Nat) (bs:List Int) (w:World) (hK:Code w B A bs) (hB:B≤w.heap.size) :
  Calls Tryz.prog 10 #[.slice A bs.length c] w fun e w'=>∃ (d1 f1:Int) (ss1:List ByteArray) (d2 f2:Int) (ss2:List ByteArray) (st:List PStep) (P:List PItem) (pp:List PPaper) (m:Int) (A1:Option Addr) (c1:Nat) (A2:Option Addr) (c2:Nat) (A3:Option Addr) (c3:Nat) (A4:Option Addr) (c4:Nat) (A5:Option Addr) (c5:Nat),∃ (la:List PAct) (Aa:Option Addr) (ca:Nat),DrewW ⟨⟨d1,f1,ss1,d2,f2,ss2,st⟩,P,pp,m⟩ 2 2∧GoodL la∧e=.returned (.tuple #[.agg #[.int .i64 d1,.int .i64 f1,.slice A1 ss1.length c1,.int .i64 d2,.int .i64 f2,.slice A2 ss2.length c2,.slice A3 st.length c3,.slice A4 P.length c4,.slice A5 pp.length c5,.int .i64 m],.slice Aa la.length ca])∧OwnW w' w.heap.size w'.heap.size A1 c1 A2 c2 A3 c3 A4 c4 A5 c5 ⟨d1,f1,ss1,d2,f2,ss2,st⟩ P pp∧OwnA w' w.heap.size w'.heap.size Aa ca la∧Below w.heap.size w w':=by
 go_enter Tryz.func10,Tryz.ntmps10
 go_wp2_with fail
 have hkr0:=blk_new w (.cells #[.int .i64 0,.int .i64 0,.slice none 0 0,.int .i64 0,.int .i64 0,.slice none 0 0,.slice none 0 0,.slice none 0 0,.slice none 0 0,.int .i64 0] 33)
 have hb0:Below w.heap.size w (w.alloc (.cells #[.int .i64 0,.int .i64 0,.slice none 0 0,.int .i64 0,.int .i64 0,.slice none 0 0,.slice none 0 0,.slice none 0 0,.slice none 0 0,.int .i64 0] 33)):=bel
 have hs0:(w.alloc (.cells #[.int .i64 0,.int .i64 0,.slice none 0 0,.int .i64 0,.int .i64 0,.slice none 0 0,.slice none 0 0,.slice none 0 0,.slice none 0 0,.int .i64 0] 33)).heap.size=w.heap.size+1:=by simp
 generalize w.alloc (.cells #[.int .i64 0,.int .i64 0,.slice none 0 0,.int .i64 0,.int .i64 0,.slice none 0 0,.slice none 0 0,.slice none 0 0,.slice none 0 0,.int .i64 0] 33)=w0 at *
 refine (s_l01New B A c bs w0 (hK.below (hb0.mono hB)) (by omega)).mono ?_
 rintro e w1 ⟨rfl,C1,hb1⟩
 have k_r1:=blk_next hkr0 hb1
 have hbw1:Below w.heap.size w w1:=hb0.trans (hb1.mono (by omega))
 have hs1:=hb1.size
 obtain ⟨g,hg⟩:∃ x,x=w0.heap.size:=⟨_,rfl⟩
 rw [← hg] at C1 ⊢
 obtain ⟨br,hbr⟩:∃ x,x=w.heap.size:=⟨_,rfl⟩
 rw [← hbr] at k_r1 ⊢
 have hrg:br<g:=by omega
 have hwr:w.heap.size≤br:=by omega
 have hgl:=C1.lo
 have hgt:=C1.lt
 have hs2:w.heap.size≤w1.heap.size:=hbw1.size
 have hBr:B≤br:=by omega
 clear hkr0 hb0 hb1 hg hbr hs0 hs1
 go_wp2_with fail
 refine (s_l39Workshop g B A c bs w1 C1).mono ?_
 rintro e w2 ⟨d1,f1,ss1,d2,f2,ss2,st,P,pp,m,A1,c1,A2,c2,A3,c3,A4,c4,A5,c5,HW,rfl,o_W,C2,g2⟩
 have HWH:=hide HW
 clear HW
 have k_r2:=C1.blk_keep k_r1 (show br≠g by omega) g2
 have hbw2:Below w.heap.size w w2:=hbw1.trans (grown_below g2 (fun k hk=>by injection hk with hk;omega) hs2)
 have hs3:=g2.size
 clear C1 k_r1 g2 hbw1
 go_wp2
 have k_x3:=blk_new w2 (.cells #[.int .i64 d1,.int .i64 f1,.slice A1 ss1.length c1,.int .i64 d2,.int .i64 f2,.slice A2 ss2.length c2,.slice A3 st.length c3,.slice A4 P.length c4,.slice A5 pp.length c5,.int .i64 m] 33)
 have k_r3:=blk_alloc k_r2 (.cells #[.int .i64 d1,.int .i64 f1,.slice A1 ss1.length c1,.int .i64 d2,.int .i64 f2,.slice A2 ss2.length c2,.slice A3 st.length c3,.slice A4 P.length c4,.slice A5 pp.length c5,.int .i64 m] 33)
 have C3:=C2.alloc (.cells #[.int .i64 d1,.int .i64 f1,.slice A1 ss1.length c1,.int .i64 d2,.int .i64 f2,.slice A2 ss2.length c2,.slice A3 st.length c3,.slice A4 P.length c4,.slice A5 pp.length c5,.int .i64 m] 33)
 have o_W3:=o_W.alloc (.cells #[.int .i64 d1,.int .i64 f1,.slice A1 ss1.length c1,.int .i64 d2,.int .i64 f2,.slice A2 ss2.length c2,.slice A3 st.length c3,.slice A4 P.length c4,.slice A5 pp.length c5,.int .i64 m] 33)
 have hbw3:Below w.heap.size w (w2.alloc (.cells #[.int .i64 d1,.int .i64 f1,.slice A1 ss1.length c1,.int .i64 d2,.int .i64 f2,.slice A2 ss2.length c2,.slice A3 st.length c3,.slice A4 P.length c4,.slice A5 pp.length c5,.int .i64 m] 33)):=hbw2.alloc (by omega) _
 have hs4:(w2.alloc (.cells #[.int .i64 d1,.int .i64 f1,.slice A1 ss1.length c1,.int .i64 d2,.int .i64 f2,.slice A2 ss2.length c2,.slice A3 st.length c3,.slice A4 P.length c4,.slice A5 pp.length c5,.int .i64 m] 33)).heap.size=w2.heap.size+1:=by simp
 have hgt2:=C2.lt
 have hr2:=blk_lt k_r2
 generalize w2.alloc (.cells #[.int .i64 d1,.int .i64 f1,.slice A1 ss1.length c1,.int .i64 d2,.int .i64 f2,.slice A2 ss2.length c2,.slice A3 st.length c3,.slice A4 P.length c4,.slice A5 pp.length c5,.int .i64 m] 33)=w3 at *
 obtain ⟨bx,hbx⟩:∃ x,x=w2.heap.size:=⟨_,rfl⟩
 rw [← hbx] at k_x3 ⊢
 have hrx:br<bx:=by omega
 have hgx:g<bx:=by omega
 have hx3:bx<w3.heap.size:=by omega
 have hw23:w2.heap.size≤w3.heap.size:=by omega
 clear hbx hs4 C2 k_r2 o_W hbw2
 have C0:Cur w3.drew g B A c bs:=C3.drew
 have kx0:w3.drew.heap[bx]?=some (.cells #[.int .i64 d1,.int .i64 f1,.slice A1 ss1.length c1,.int .i64 d2,.int .i64 f2,.slice A2 ss2.length c2,.slice A3 st.length c3,.slice A4 P.length c4,.slice A5 pp.length c5,.int .i64 m] 33 (0,0)):=k_x3
 have kr0:w3.drew.heap[br]?=some (.cells #[.int .i64 0,.int .i64 0,.slice none 0 0,.int .i64 0,.int .i64 0,.slice none 0 0,.slice none 0 0,.slice none 0 0,.slice none 0 0,.int .i64 0] 33 (0,0)):=k_r3
 have O0:OwnW w3.drew w.heap.size w3.heap.size A1 c1 A2 c2 A3 c3 A4 c4 A5 c5 ⟨d1,f1,ss1,d2,f2,ss2,st⟩ P pp:=(o_W3.wide (by omega) hw23).drew
 have B0:Below w.heap.size w w3.drew:=hbw3.drew
 have hsd:w3.drew.heap.size=w3.heap.size:=rfl
 clear C3 o_W3 hbw3
 obtain ⟨x0,x1,x2,x3,x4,x5,x6,x7,x8,x9,xl⟩:=blk10 k_x3
 obtain ⟨y0,y1,y2,y3,y4,y5,y6,y7,y8,y9,yl⟩:=blk10 k_r3
 obtain ⟨⟨u0,u1,u2,u3,u4⟩,u5,u6,u7,u8,u9⟩:=blk10f k_r3
 go_region_with (first
  |(go_at_call 38;refine (s_l39ListV g B A c bs _ ?_).mono ?_;(first|(with_reducible exact C0)|exact put10 C0 (show g≠br by omega) hBr _ _ _ _ _ _ _ _ _ _);rintro e wa ⟨la,Aa,ca,hla,rfl,oA,Ca,ga⟩;first
    |((have kxa:=C0.blk_keep kx0 (show bx≠g by omega) ga);(have kra:=C0.blk_keep kr0 (show br≠g by omega) ga);(have OA:=(O0.boxy (C0.boxy ga)).wide (hi':=wa.heap.size) (Nat.le_refl _) (by have:=ga.size;omega));(have BA:=B0.trans (grown_below ga (fun k hk=>by injection hk with hk;omega) (by omega:w.heap.size≤w3.drew.heap.size)));(have hga:=ga.size);obtain ⟨v0,v1,v2,v3,v4,v5,v6,v7,v8,v9,vl⟩:=blk10 kxa;obtain ⟨q0,q1,q2,q3,q4,q5,q6,q7,q8,q9,ql⟩:=blk10 kra;obtain ⟨⟨t0,t1,t2,t3,t4⟩,t5,t6,t7,t8,t9⟩:=blk10f kra)
    |((have kxa:=(put10 C0 (show g≠br by omega) hBr _ _ _ _ _ _ _ _ _ _).blk_keep (blk_other10 kx0 (show bx≠br by omega) _ _ _ _ _ _ _ _ _ _) (show bx≠g by omega) ga);(have kra:=(put10 C0 (show g≠br by omega) hBr _ _ _ _ _ _ _ _ _ _).blk_keep (blk10_set kr0 (.int .i64 d1) (.int .i64 f1) (.slice A1 ss1.length c1) (.int .i64 d2) (.int .i64 f2) (.slice A2 ss2.length c2) (.slice A3 st.length c3) (.slice A4 P.length c4) (.slice A5 pp.length c5) (.int .i64 m)) (show br≠g by omega) ga);(have OA:=(((own10 O0 (boxAt_of kr0) (Nat.le_refl _) (Nat.le_refl _) _ _ _ _ _ _ _ _ _ _).boxy ((put10 C0 (show g≠br by omega) hBr _ _ _ _ _ _ _ _ _ _).boxy ga)).wide (hi':=wa.heap.size) (Nat.le_refl _) (ga.size)));(have BA:=(B0.trans (below10 hwr _ _ _ _ _ _ _ _ _ _)).trans (grown_below ga (fun k hk=>by injection hk with hk;omega) (by simp [World.setCell];omega)));(have hga:=ga.size);obtain ⟨q0,q1,q2,q3,q4,q5,q6,q7,q8,q9,ql⟩:=blk10 kra)))
 all_goals (go_wp2)
 all_goals (refine bodyPost_ret (v:=.tuple #[.agg #[.int .i64 d1,.int .i64 f1,.slice A1 ss1.length c1,.int .i64 d2,.int .i64 f2,.slice A2 ss2.length c2,.slice A3 st.length c3,.slice A4 P.length c4,.slice A5 pp.length c5,.int .i64 m],.slice Aa la.length ca]) (by simp [results,Tryz.results10,go_sem, *]) rfl ?_)
 all_goals (
  refine ⟨_,_,_,_,_,_,_,_,_,_,A1,c1,A2,c2,A3,c3,A4,c4,A5,c5,la,Aa,ca,unhide HWH,hla,rfl,?_⟩
  first
   |(with_reducible exact ⟨OA,oA.wide (by simp [World.setCell] at hga;omega) (Nat.le_refl _),BA⟩)
   |exact ⟨own10 OA (boxAt_of kra) (Nat.le_refl _) (Nat.le_refl _) _ _ _ _ _ _ _ _ _ _,(oA.boxy (w':=((((((((((wa.setCell ⟨br,0,none⟩ (.int .i64 d1)).setCell ⟨br,1,none⟩ (.int .i64 f1)).setCell ⟨br,2,none⟩ (.slice A1 ss1.length c1)).setCell ⟨br,3,none⟩ (.int .i64 d2)).setCell ⟨br,4,none⟩ (.int .i64 f2)).setCell ⟨br,5,none⟩ (.slice A2 ss2.length c2)).setCell ⟨br,6,none⟩ (.slice A3 st.length c3)).setCell ⟨br,7,none⟩ (.slice A4 P.length c4)).setCell ⟨br,8,none⟩ (.slice A5 pp.length c5)).setCell ⟨br,9,none⟩ (.int .i64 m))) (have hbq:=boxAt_of kra;boxy)).wide (by omega) (by simp [World.setCell]),BA.trans (below10 hwr _ _ _ _ _ _ _ _ _ _)⟩)
end Go.Proofs.YtlimlolciekimaaGreatDoor
