/- Contracts of the program's and the reference's functions (Work1, Work2, Work3, WPlain, Work4, Work6). -/
import Derived.Deep.RegionHeld3
import Derived.Deep.RegionLaw
import Derived.Test.YtlimlolciekimaaGreatDoorRows
import Derived.Test.YtlimlolciekimaaGreatDoorQUm
import Derived.Test.YtlimlolciekimaaGreatDoorQUf
import Derived.Test.YtlimlolciekimaaGreatDoorQUk
import Derived.Test.YtlimlolciekimaaGreatDoorQUj
import Derived.Test.YtlimlolciekimaaGreatDoorQUi
import Derived.Test.YtlimlolciekimaaGreatDoorQUl
namespace Go.Proofs.YtlimlolciekimaaGreatDoor
set_option maxHeartbeats 1600000
open Go.ChangeShapes Go.WideShapes Go.ChangeAt Go.RowKit
set_option linter.unusedVariables false
set_option linter.unusedSimpArgs false
set_option maxRecDepth 10000
structure PWork where
 (D:PDraft) (P:List PItem) (pp:List PPaper) (m:Int)
def workOk (W:PWork):Bool:=draftOk W.D&&(catOk W.P&&(decide (W.pp.length≤20)&&(papOk W.pp&&inB W.m 0 1000000)))
theorem workOk_iff {W:PWork}:workOk W=true↔draftOk W.D=true∧catOk W.P=true∧W.pp.length≤20∧papOk W.pp=true∧0≤W.m∧W.m≤1000000:=by
 unfold workOk
 simp only [Bool.and_eq_true,decide_eq_true_eq,inB_iff']
theorem workOk_no1 {W:PWork} (h:draftOk W.D=false):workOk W=false:=by unfold workOk;rw [h];rfl
theorem workOk_no2 {W:PWork} (h:catOk W.P=false):workOk W=false:=by unfold workOk;rw [h];simp
theorem workOk_no3 {W:PWork} (h:¬W.pp.length≤20):workOk W=false:=by unfold workOk;rw [decide_eq_false h];simp
theorem workOk_no4 {W:PWork} (h:papOk W.pp=false):workOk W=false:=by unfold workOk;rw [h];simp
theorem workOk_yes {W:PWork} (h1:draftOk W.D=true) (h2:catOk W.P=true) (h3:W.pp.length≤20) (h4:papOk W.pp=true):workOk W=inB W.m 0 1000000:=by unfold workOk;rw [h1,h2,h4,decide_eq_true h3];rfl
set_option maxHeartbeats 3200000 in
theorem i_WorkshopOk (d1 f1:Int) (ss1:List ByteArray) (d2 f2:Int) (ss2:List ByteArray) (st:List PStep) (P:List PItem) (pp:List PPaper) (m:Int) (B:Nat) (A1 A2 A3 A4 A5:Option Addr) (c1 c2 c3 c4 c5:Nat) (w:World) (hS:RdWork w B A1 A2 A3 A4 c4 A5 ⟨d1,f1,ss1,d2,f2,ss2,st⟩ P pp) (hB:B≤w.heap.size) :
  Calls Tryz.prog 40 #[.agg #[.int .i64 d1,.int .i64 f1,.slice A1 ss1.length c1,.int .i64 d2,.int .i64 f2,.slice A2 ss2.length c2,.slice A3 st.length c3,.slice A4 P.length c4,.slice A5 pp.length c5,.int .i64 m]] w fun e w'=>e=.returned (.bool (workOk ⟨⟨d1,f1,ss1,d2,f2,ss2,st⟩,P,pp,m⟩))∧Below w.heap.size w w':=by
 have hS2:=hS.alloc hB (.cells #[.int .i64 d1,.int .i64 f1,.slice A1 ss1.length c1,.int .i64 d2,.int .i64 f2,.slice A2 ss2.length c2,.slice A3 st.length c3,.slice A4 P.length c4,.slice A5 pp.length c5,.int .i64 m] 33)
 have hka:=blk_new w (.cells #[.int .i64 d1,.int .i64 f1,.slice A1 ss1.length c1,.int .i64 d2,.int .i64 f2,.slice A2 ss2.length c2,.slice A3 st.length c3,.slice A4 P.length c4,.slice A5 pp.length c5,.int .i64 m] 33)
 obtain ⟨L,hpl,hL⟩:=hS.i
 have HPL:=Lib.hid hpl
 have hpn:=hS.p.nb
 clear hpl
 cases h1:draftOk ⟨d1,f1,ss1,d2,f2,ss2,st⟩
 ·have HR:=Lib.hid (workOk_no1 (W:=(PWork.mk ⟨d1,f1,ss1,d2,f2,ss2,st⟩ P pp m)) h1)
  have H1:=Lib.hid h1
  clear h1
  go_enter Tryz.func40,Tryz.ntmps40
  go_wp2_with (first|(go_at_call 82;refine (i_DraftOk ⟨d1,f1,ss1,d2,f2,ss2,st⟩ B A1 A2 A3 c1 c2 c3 _ (hS2.d) (by simp;omega)).mono ?_;rw [H1.out];rintro e w1 ⟨rfl,hb1⟩;(have hbw1:Below w.heap.size w w1:=((Below.refl _ _).alloc (Nat.le_refl _) _).trans (hb1.mono (by simp)));(have hk1:=blk_next hka hb1);obtain ⟨hx0,hx1,hx2,hx3,hx4,hx5,hx6,hx7,hx8,hx9,hxl⟩:=blk10 hk1))
  go_ret
  exact ⟨ret_bool HR.out.symm,hbw1⟩
 ·cases h2:catOk P
  ·have HR:=Lib.hid (workOk_no2 (W:=(PWork.mk ⟨d1,f1,ss1,d2,f2,ss2,st⟩ P pp m)) h2)
   have H1:=Lib.hid h1
   have H2:=Lib.hid h2
   clear h1 h2
   go_enter Tryz.func40,Tryz.ntmps40
   go_wp2_with (first|(go_at_call 82;refine (i_DraftOk ⟨d1,f1,ss1,d2,f2,ss2,st⟩ B A1 A2 A3 c1 c2 c3 _ (hS2.d) (by simp;omega)).mono ?_;rw [H1.out];rintro e w1 ⟨rfl,hb1⟩;(have hbw1:Below w.heap.size w w1:=((Below.refl _ _).alloc (Nat.le_refl _) _).trans (hb1.mono (by simp)));(have hk1:=blk_next hka hb1);obtain ⟨hx0,hx1,hx2,hx3,hx4,hx5,hx6,hx7,hx8,hx9,hxl⟩:=blk10 hk1)|(go_at_call 83;refine (i_CatalogOk P B A4 P.length c4 L _ HPL.out (hL.below (hbw1.mono hB)) (Nat.le_trans hB hbw1.size)).mono ?_;rw [H2.out];rintro e w2 ⟨rfl,hb2⟩;(have hbw2:Below w.heap.size w w2:=hbw1.trans (hb2.mono hbw1.size));(have hk2:=blk_next hk1 hb2);clear hx0 hx1 hx2 hx3 hx4 hx5 hx6 hx7 hx8 hx9 hxl;obtain ⟨hx0,hx1,hx2,hx3,hx4,hx5,hx6,hx7,hx8,hx9,hxl⟩:=blk10 hk2))
   go_ret
   exact ⟨ret_bool HR.out.symm,hbw2⟩
  ·by_cases h3:pp.length≤20
   ·cases h4:papOk pp
    ·have hi3:(pp.length:Int)≤20:=by omega
     have HR:=Lib.hid (workOk_no4 (W:=(PWork.mk ⟨d1,f1,ss1,d2,f2,ss2,st⟩ P pp m)) h4)
     have H1:=Lib.hid h1
     have H2:=Lib.hid h2
     have H4:=Lib.hid h4
     clear h1 h2 h4
     go_enter Tryz.func40,Tryz.ntmps40
     go_wp2_with (first|(go_at_call 82;refine (i_DraftOk ⟨d1,f1,ss1,d2,f2,ss2,st⟩ B A1 A2 A3 c1 c2 c3 _ (hS2.d) (by simp;omega)).mono ?_;rw [H1.out];rintro e w1 ⟨rfl,hb1⟩;(have hbw1:Below w.heap.size w w1:=((Below.refl _ _).alloc (Nat.le_refl _) _).trans (hb1.mono (by simp)));(have hk1:=blk_next hka hb1);obtain ⟨hx0,hx1,hx2,hx3,hx4,hx5,hx6,hx7,hx8,hx9,hxl⟩:=blk10 hk1)|(go_at_call 83;refine (i_CatalogOk P B A4 P.length c4 L _ HPL.out (hL.below (hbw1.mono hB)) (Nat.le_trans hB hbw1.size)).mono ?_;rw [H2.out];rintro e w2 ⟨rfl,hb2⟩;(have hbw2:Below w.heap.size w w2:=hbw1.trans (hb2.mono hbw1.size));(have hk2:=blk_next hk1 hb2);clear hx0 hx1 hx2 hx3 hx4 hx5 hx6 hx7 hx8 hx9 hxl;obtain ⟨hx0,hx1,hx2,hx3,hx4,hx5,hx6,hx7,hx8,hx9,hxl⟩:=blk10 hk2)|(go_at_call 67;refine (i_arePapers pp B A5 pp.length c5 _ (hS.p.below (hbw2.mono hB)) (Nat.le_trans hB hbw2.size)).mono ?_;rw [H4.out];rintro e w3 ⟨rfl,hb3⟩;(have hbw3:Below w.heap.size w w3:=hbw2.trans (hb3.mono hbw2.size));(have hk3:=blk_next hk2 hb3);clear hx0 hx1 hx2 hx3 hx4 hx5 hx6 hx7 hx8 hx9 hxl;obtain ⟨hx0,hx1,hx2,hx3,hx4,hx5,hx6,hx7,hx8,hx9,hxl⟩:=blk10 hk3))
     go_ret
     exact ⟨ret_bool HR.out.symm,hbw3⟩
    ·have hi3:(pp.length:Int)≤20:=by omega
     have HR:=Lib.hid (workOk_yes (W:=(PWork.mk ⟨d1,f1,ss1,d2,f2,ss2,st⟩ P pp m)) h1 h2 h3 h4)
     have H1:=Lib.hid h1
     have H2:=Lib.hid h2
     have H4:=Lib.hid h4
     clear h1 h2 h4
     go_enter Tryz.func40,Tryz.ntmps40
     go_wp2_with (first|(go_at_call 82;refine (i_DraftOk ⟨d1,f1,ss1,d2,f2,ss2,st⟩ B A1 A2 A3 c1 c2 c3 _ (hS2.d) (by simp;omega)).mono ?_;rw [H1.out];rintro e w1 ⟨rfl,hb1⟩;(have hbw1:Below w.heap.size w w1:=((Below.refl _ _).alloc (Nat.le_refl _) _).trans (hb1.mono (by simp)));(have hk1:=blk_next hka hb1);obtain ⟨hx0,hx1,hx2,hx3,hx4,hx5,hx6,hx7,hx8,hx9,hxl⟩:=blk10 hk1)|(go_at_call 83;refine (i_CatalogOk P B A4 P.length c4 L _ HPL.out (hL.below (hbw1.mono hB)) (Nat.le_trans hB hbw1.size)).mono ?_;rw [H2.out];rintro e w2 ⟨rfl,hb2⟩;(have hbw2:Below w.heap.size w w2:=hbw1.trans (hb2.mono hbw1.size));(have hk2:=blk_next hk1 hb2);clear hx0 hx1 hx2 hx3 hx4 hx5 hx6 hx7 hx8 hx9 hxl;obtain ⟨hx0,hx1,hx2,hx3,hx4,hx5,hx6,hx7,hx8,hx9,hxl⟩:=blk10 hk2)|(go_at_call 67;refine (i_arePapers pp B A5 pp.length c5 _ (hS.p.below (hbw2.mono hB)) (Nat.le_trans hB hbw2.size)).mono ?_;rw [H4.out];rintro e w3 ⟨rfl,hb3⟩;(have hbw3:Below w.heap.size w w3:=hbw2.trans (hb3.mono hbw2.size));(have hk3:=blk_next hk2 hb3);clear hx0 hx1 hx2 hx3 hx4 hx5 hx6 hx7 hx8 hx9 hxl;obtain ⟨hx0,hx1,hx2,hx3,hx4,hx5,hx6,hx7,hx8,hx9,hxl⟩:=blk10 hk3)|(go_at_call 71;refine (i_within _ _ _ _).mono ?_;rintro e w' ⟨rfl,rfl⟩))
     go_ret
     exact ⟨ret_bool HR.out.symm,hbw3⟩
   ·have hi3:¬(pp.length:Int)≤20:=by omega
    have HR:=Lib.hid (workOk_no3 (W:=(PWork.mk ⟨d1,f1,ss1,d2,f2,ss2,st⟩ P pp m)) h3)
    have H1:=Lib.hid h1
    have H2:=Lib.hid h2
    clear h1 h2
    go_enter Tryz.func40,Tryz.ntmps40
    go_wp2_with (first|(go_at_call 82;refine (i_DraftOk ⟨d1,f1,ss1,d2,f2,ss2,st⟩ B A1 A2 A3 c1 c2 c3 _ (hS2.d) (by simp;omega)).mono ?_;rw [H1.out];rintro e w1 ⟨rfl,hb1⟩;(have hbw1:Below w.heap.size w w1:=((Below.refl _ _).alloc (Nat.le_refl _) _).trans (hb1.mono (by simp)));(have hk1:=blk_next hka hb1);obtain ⟨hx0,hx1,hx2,hx3,hx4,hx5,hx6,hx7,hx8,hx9,hxl⟩:=blk10 hk1)|(go_at_call 83;refine (i_CatalogOk P B A4 P.length c4 L _ HPL.out (hL.below (hbw1.mono hB)) (Nat.le_trans hB hbw1.size)).mono ?_;rw [H2.out];rintro e w2 ⟨rfl,hb2⟩;(have hbw2:Below w.heap.size w w2:=hbw1.trans (hb2.mono hbw1.size));(have hk2:=blk_next hk1 hb2);clear hx0 hx1 hx2 hx3 hx4 hx5 hx6 hx7 hx8 hx9 hxl;obtain ⟨hx0,hx1,hx2,hx3,hx4,hx5,hx6,hx7,hx8,hx9,hxl⟩:=blk10 hk2))
    go_ret
    exact ⟨ret_bool HR.out.symm,hbw2⟩
set_option maxHeartbeats 3200000 in
theorem s_WorkshopOk (d1 f1:Int) (ss1:List ByteArray) (d2 f2:Int) (ss2:List ByteArray) (st:List PStep) (P:List PItem) (pp:List PPaper) (m:Int) (B:Nat) (A1 A2 A3 A4 A5:Option Addr) (c1 c2 c3 c4 c5:Nat) (w:World) (hS:RdWork w B A1 A2 A3 A4 c4 A5 ⟨d1,f1,ss1,d2,f2,ss2,st⟩ P pp) (hB:B≤w.heap.size) :
  Calls Tryz.prog 47 #[.agg #[.int .i64 d1,.int .i64 f1,.slice A1 ss1.length c1,.int .i64 d2,.int .i64 f2,.slice A2 ss2.length c2,.slice A3 st.length c3,.slice A4 P.length c4,.slice A5 pp.length c5,.int .i64 m]] w fun e w'=>e=.returned (.bool (workOk ⟨⟨d1,f1,ss1,d2,f2,ss2,st⟩,P,pp,m⟩))∧Below w.heap.size w w':=by
 have hS2:=hS.alloc hB (.cells #[.int .i64 d1,.int .i64 f1,.slice A1 ss1.length c1,.int .i64 d2,.int .i64 f2,.slice A2 ss2.length c2,.slice A3 st.length c3,.slice A4 P.length c4,.slice A5 pp.length c5,.int .i64 m] 33)
 have hka:=blk_new w (.cells #[.int .i64 d1,.int .i64 f1,.slice A1 ss1.length c1,.int .i64 d2,.int .i64 f2,.slice A2 ss2.length c2,.slice A3 st.length c3,.slice A4 P.length c4,.slice A5 pp.length c5,.int .i64 m] 33)
 obtain ⟨L,hpl,hL⟩:=hS.i
 have HPL:=Lib.hid hpl
 have hpn:=hS.p.nb
 clear hpl
 cases h1:draftOk ⟨d1,f1,ss1,d2,f2,ss2,st⟩
 ·have HR:=Lib.hid (workOk_no1 (W:=(PWork.mk ⟨d1,f1,ss1,d2,f2,ss2,st⟩ P pp m)) h1)
  have H1:=Lib.hid h1
  clear h1
  go_enter Tryz.func47,Tryz.ntmps47
  go_wp2_with (first|(go_at_call 92;refine (s_DraftOk ⟨d1,f1,ss1,d2,f2,ss2,st⟩ B A1 A2 A3 c1 c2 c3 _ (hS2.d) (by simp;omega)).mono ?_;rw [H1.out];rintro e w1 ⟨rfl,hb1⟩;(have hbw1:Below w.heap.size w w1:=((Below.refl _ _).alloc (Nat.le_refl _) _).trans (hb1.mono (by simp)));(have hk1:=blk_next hka hb1);obtain ⟨hx0,hx1,hx2,hx3,hx4,hx5,hx6,hx7,hx8,hx9,hxl⟩:=blk10 hk1))
  go_ret
  exact ⟨ret_bool HR.out.symm,hbw1⟩
 ·cases h2:catOk P
  ·have HR:=Lib.hid (workOk_no2 (W:=(PWork.mk ⟨d1,f1,ss1,d2,f2,ss2,st⟩ P pp m)) h2)
   have H1:=Lib.hid h1
   have H2:=Lib.hid h2
   clear h1 h2
   go_enter Tryz.func47,Tryz.ntmps47
   go_wp2_with (first|(go_at_call 92;refine (s_DraftOk ⟨d1,f1,ss1,d2,f2,ss2,st⟩ B A1 A2 A3 c1 c2 c3 _ (hS2.d) (by simp;omega)).mono ?_;rw [H1.out];rintro e w1 ⟨rfl,hb1⟩;(have hbw1:Below w.heap.size w w1:=((Below.refl _ _).alloc (Nat.le_refl _) _).trans (hb1.mono (by simp)));(have hk1:=blk_next hka hb1);obtain ⟨hx0,hx1,hx2,hx3,hx4,hx5,hx6,hx7,hx8,hx9,hxl⟩:=blk10 hk1)|(go_at_call 93;refine (s_CatalogOk P B A4 P.length c4 L _ HPL.out (hL.below (hbw1.mono hB)) (Nat.le_trans hB hbw1.size)).mono ?_;rw [H2.out];rintro e w2 ⟨rfl,hb2⟩;(have hbw2:Below w.heap.size w w2:=hbw1.trans (hb2.mono hbw1.size));(have hk2:=blk_next hk1 hb2);clear hx0 hx1 hx2 hx3 hx4 hx5 hx6 hx7 hx8 hx9 hxl;obtain ⟨hx0,hx1,hx2,hx3,hx4,hx5,hx6,hx7,hx8,hx9,hxl⟩:=blk10 hk2))
   go_ret
   exact ⟨ret_bool HR.out.symm,hbw2⟩
  ·cases h4:papOk pp
   ·have HR:=Lib.hid (workOk_no4 (W:=(PWork.mk ⟨d1,f1,ss1,d2,f2,ss2,st⟩ P pp m)) h4)
    have H1:=Lib.hid h1
    have H2:=Lib.hid h2
    have H4:=Lib.hid h4
    clear h1 h2 h4
    go_enter Tryz.func47,Tryz.ntmps47
    go_wp2_with (first|(go_at_call 92;refine (s_DraftOk ⟨d1,f1,ss1,d2,f2,ss2,st⟩ B A1 A2 A3 c1 c2 c3 _ (hS2.d) (by simp;omega)).mono ?_;rw [H1.out];rintro e w1 ⟨rfl,hb1⟩;(have hbw1:Below w.heap.size w w1:=((Below.refl _ _).alloc (Nat.le_refl _) _).trans (hb1.mono (by simp)));(have hk1:=blk_next hka hb1);obtain ⟨hx0,hx1,hx2,hx3,hx4,hx5,hx6,hx7,hx8,hx9,hxl⟩:=blk10 hk1)|(go_at_call 93;refine (s_CatalogOk P B A4 P.length c4 L _ HPL.out (hL.below (hbw1.mono hB)) (Nat.le_trans hB hbw1.size)).mono ?_;rw [H2.out];rintro e w2 ⟨rfl,hb2⟩;(have hbw2:Below w.heap.size w w2:=hbw1.trans (hb2.mono hbw1.size));(have hk2:=blk_next hk1 hb2);clear hx0 hx1 hx2 hx3 hx4 hx5 hx6 hx7 hx8 hx9 hxl;obtain ⟨hx0,hx1,hx2,hx3,hx4,hx5,hx6,hx7,hx8,hx9,hxl⟩:=blk10 hk2)|(go_at_call 94;refine (s_l23Ok pp B A5 pp.length c5 _ (hS.p.below (hbw2.mono hB)) (Nat.le_trans hB hbw2.size)).mono ?_;rw [H4.out];rintro e w3 ⟨rfl,hb3⟩;(have hbw3:Below w.heap.size w w3:=hbw2.trans (hb3.mono hbw2.size));(have hk3:=blk_next hk2 hb3);clear hx0 hx1 hx2 hx3 hx4 hx5 hx6 hx7 hx8 hx9 hxl;obtain ⟨hx0,hx1,hx2,hx3,hx4,hx5,hx6,hx7,hx8,hx9,hxl⟩:=blk10 hk3))
    go_ret
    exact ⟨ret_bool HR.out.symm,hbw3⟩
   ·by_cases h3:pp.length≤20
    ·have hi3:(pp.length:Int)≤20:=by omega
     have HR:=Lib.hid (workOk_yes (W:=(PWork.mk ⟨d1,f1,ss1,d2,f2,ss2,st⟩ P pp m)) h1 h2 h3 h4)
     have H1:=Lib.hid h1
     have H2:=Lib.hid h2
     have H4:=Lib.hid h4
     clear h1 h2 h4
     go_enter Tryz.func47,Tryz.ntmps47
     go_wp2_with (first|(go_at_call 92;refine (s_DraftOk ⟨d1,f1,ss1,d2,f2,ss2,st⟩ B A1 A2 A3 c1 c2 c3 _ (hS2.d) (by simp;omega)).mono ?_;rw [H1.out];rintro e w1 ⟨rfl,hb1⟩;(have hbw1:Below w.heap.size w w1:=((Below.refl _ _).alloc (Nat.le_refl _) _).trans (hb1.mono (by simp)));(have hk1:=blk_next hka hb1);obtain ⟨hx0,hx1,hx2,hx3,hx4,hx5,hx6,hx7,hx8,hx9,hxl⟩:=blk10 hk1)|(go_at_call 93;refine (s_CatalogOk P B A4 P.length c4 L _ HPL.out (hL.below (hbw1.mono hB)) (Nat.le_trans hB hbw1.size)).mono ?_;rw [H2.out];rintro e w2 ⟨rfl,hb2⟩;(have hbw2:Below w.heap.size w w2:=hbw1.trans (hb2.mono hbw1.size));(have hk2:=blk_next hk1 hb2);clear hx0 hx1 hx2 hx3 hx4 hx5 hx6 hx7 hx8 hx9 hxl;obtain ⟨hx0,hx1,hx2,hx3,hx4,hx5,hx6,hx7,hx8,hx9,hxl⟩:=blk10 hk2)|(go_at_call 94;refine (s_l23Ok pp B A5 pp.length c5 _ (hS.p.below (hbw2.mono hB)) (Nat.le_trans hB hbw2.size)).mono ?_;rw [H4.out];rintro e w3 ⟨rfl,hb3⟩;(have hbw3:Below w.heap.size w w3:=hbw2.trans (hb3.mono hbw2.size));(have hk3:=blk_next hk2 hb3);clear hx0 hx1 hx2 hx3 hx4 hx5 hx6 hx7 hx8 hx9 hxl;obtain ⟨hx0,hx1,hx2,hx3,hx4,hx5,hx6,hx7,hx8,hx9,hxl⟩:=blk10 hk3)|(go_at_call 95;refine (s_l01In _ _ _ _).mono ?_;rintro e w' ⟨rfl,rfl⟩))
     go_ret
     exact ⟨ret_bool HR.out.symm,hbw3⟩
    ·have hi3:¬(pp.length:Int)≤20:=by omega
     have HR:=Lib.hid (workOk_no3 (W:=(PWork.mk ⟨d1,f1,ss1,d2,f2,ss2,st⟩ P pp m)) h3)
     have H1:=Lib.hid h1
     have H2:=Lib.hid h2
     have H4:=Lib.hid h4
     clear h1 h2 h4
     go_enter Tryz.func47,Tryz.ntmps47
     go_wp2_with (first|(go_at_call 92;refine (s_DraftOk ⟨d1,f1,ss1,d2,f2,ss2,st⟩ B A1 A2 A3 c1 c2 c3 _ (hS2.d) (by simp;omega)).mono ?_;rw [H1.out];rintro e w1 ⟨rfl,hb1⟩;(have hbw1:Below w.heap.size w w1:=((Below.refl _ _).alloc (Nat.le_refl _) _).trans (hb1.mono (by simp)));(have hk1:=blk_next hka hb1);obtain ⟨hx0,hx1,hx2,hx3,hx4,hx5,hx6,hx7,hx8,hx9,hxl⟩:=blk10 hk1)|(go_at_call 93;refine (s_CatalogOk P B A4 P.length c4 L _ HPL.out (hL.below (hbw1.mono hB)) (Nat.le_trans hB hbw1.size)).mono ?_;rw [H2.out];rintro e w2 ⟨rfl,hb2⟩;(have hbw2:Below w.heap.size w w2:=hbw1.trans (hb2.mono hbw1.size));(have hk2:=blk_next hk1 hb2);clear hx0 hx1 hx2 hx3 hx4 hx5 hx6 hx7 hx8 hx9 hxl;obtain ⟨hx0,hx1,hx2,hx3,hx4,hx5,hx6,hx7,hx8,hx9,hxl⟩:=blk10 hk2)|(go_at_call 94;refine (s_l23Ok pp B A5 pp.length c5 _ (hS.p.below (hbw2.mono hB)) (Nat.le_trans hB hbw2.size)).mono ?_;rw [H4.out];rintro e w3 ⟨rfl,hb3⟩;(have hbw3:Below w.heap.size w w3:=hbw2.trans (hb3.mono hbw2.size));(have hk3:=blk_next hk2 hb3);clear hx0 hx1 hx2 hx3 hx4 hx5 hx6 hx7 hx8 hx9 hxl;obtain ⟨hx0,hx1,hx2,hx3,hx4,hx5,hx6,hx7,hx8,hx9,hxl⟩:=blk10 hk3))
     go_ret
     exact ⟨ret_bool HR.out.symm,hbw3⟩
theorem hkc {w e:World} {g:Nat} {o:Obj} (he:w=e) (h:e.heap[g]?=some o):w.heap[g]?=some o:=he ▸ h
theorem bf10 {w:World} {g:Nat} {t:TypeId} {z0 z1 z2 z3 z4 z5 z6 z7 z8 z9:Value} (h:w.heap[g]?=some (.cells #[z0,z1,z2,z3,z4,z5,z6,z7,z8,z9] t (0,0))):w.frozen? ⟨g,0,none⟩=false∧w.frozen? ⟨g,1,none⟩=false∧w.frozen? ⟨g,2,none⟩=false∧w.frozen? ⟨g,3,none⟩=false∧w.frozen? ⟨g,4,none⟩=false∧w.frozen? ⟨g,5,none⟩=false∧w.frozen? ⟨g,6,none⟩=false∧w.frozen? ⟨g,7,none⟩=false∧w.frozen? ⟨g,8,none⟩=false∧w.frozen? ⟨g,9,none⟩=false:=⟨(blk_cells h 0).2,(blk_cells h 1).2,(blk_cells h 2).2,(blk_cells h 3).2,(blk_cells h 4).2,(blk_cells h 5).2,(blk_cells h 6).2,(blk_cells h 7).2,(blk_cells h 8).2,(blk_cells h 9).2⟩
theorem ba10 {w:World} {g:Nat} {t:TypeId} {z0 z1 z2 z3 z4 z5 z6 z7 z8 z9:Value} (h:w.heap[g]?=some (.cells #[z0,z1,z2,z3,z4,z5,z6,z7,z8,z9] t (0,0))):(w.cell? ⟨g,0,none⟩=some z0∧w.cell? ⟨g,1,none⟩=some z1∧w.cell? ⟨g,2,none⟩=some z2∧w.cell? ⟨g,3,none⟩=some z3∧w.cell? ⟨g,4,none⟩=some z4∧w.cell? ⟨g,5,none⟩=some z5∧w.cell? ⟨g,6,none⟩=some z6∧w.cell? ⟨g,7,none⟩=some z7∧w.cell? ⟨g,8,none⟩=some z8∧w.cell? ⟨g,9,none⟩=some z9∧g<w.heap.size)∧w.frozen? ⟨g,0,none⟩=false∧w.frozen? ⟨g,1,none⟩=false∧w.frozen? ⟨g,2,none⟩=false∧w.frozen? ⟨g,3,none⟩=false∧w.frozen? ⟨g,4,none⟩=false∧w.frozen? ⟨g,5,none⟩=false∧w.frozen? ⟨g,6,none⟩=false∧w.frozen? ⟨g,7,none⟩=false∧w.frozen? ⟨g,8,none⟩=false∧w.frozen? ⟨g,9,none⟩=false:=⟨blk10 h,bf10 h⟩
theorem endw {w wk:World} {g:Nat} {t:TypeId} {A1:Option Addr} {c1:Nat} {A2:Option Addr} {c2:Nat} {A3:Option Addr} {c3:Nat} {A4:Option Addr} {c4:Nat} {A5:Option Addr} {c5:Nat} {D:PDraft} {P:List PItem} {pp:List PPaper} {z0 z1 z2 z3 z4 z5 z6 z7 z8 z9:Value} (hk:wk.heap[g]?=some (.cells #[z0,z1,z2,z3,z4,z5,z6,z7,z8,z9] t (0,0))) (ho:OwnW wk w.heap.size wk.heap.size A1 c1 A2 c2 A3 c3 A4 c4 A5 c5 D P pp) (hb:Below w.heap.size w wk) (hg:w.heap.size≤g) {v0 v1 v2 v3 v4 v5 v6 v7 v8 v9:Value} (ht:t∉rowTys:=by decide) :
  OwnW ((((((((((wk.setCell ⟨g,0,none⟩ v0).setCell ⟨g,1,none⟩ v1).setCell ⟨g,2,none⟩ v2).setCell ⟨g,3,none⟩ v3).setCell ⟨g,4,none⟩ v4).setCell ⟨g,5,none⟩ v5).setCell ⟨g,6,none⟩ v6).setCell ⟨g,7,none⟩ v7).setCell ⟨g,8,none⟩ v8).setCell ⟨g,9,none⟩ v9) w.heap.size ((((((((((wk.setCell ⟨g,0,none⟩ v0).setCell ⟨g,1,none⟩ v1).setCell ⟨g,2,none⟩ v2).setCell ⟨g,3,none⟩ v3).setCell ⟨g,4,none⟩ v4).setCell ⟨g,5,none⟩ v5).setCell ⟨g,6,none⟩ v6).setCell ⟨g,7,none⟩ v7).setCell ⟨g,8,none⟩ v8).setCell ⟨g,9,none⟩ v9).heap.size A1 c1 A2 c2 A3 c3 A4 c4 A5 c5 D P pp∧Below w.heap.size w ((((((((((wk.setCell ⟨g,0,none⟩ v0).setCell ⟨g,1,none⟩ v1).setCell ⟨g,2,none⟩ v2).setCell ⟨g,3,none⟩ v3).setCell ⟨g,4,none⟩ v4).setCell ⟨g,5,none⟩ v5).setCell ⟨g,6,none⟩ v6).setCell ⟨g,7,none⟩ v7).setCell ⟨g,8,none⟩ v8).setCell ⟨g,9,none⟩ v9):=by
 have hbx:=boxAt_of hk ht
 have hX:Boxy wk ((((((((((wk.setCell ⟨g,0,none⟩ v0).setCell ⟨g,1,none⟩ v1).setCell ⟨g,2,none⟩ v2).setCell ⟨g,3,none⟩ v3).setCell ⟨g,4,none⟩ v4).setCell ⟨g,5,none⟩ v5).setCell ⟨g,6,none⟩ v6).setCell ⟨g,7,none⟩ v7).setCell ⟨g,8,none⟩ v8).setCell ⟨g,9,none⟩ v9):=boxy
 refine ⟨(ho.boxy hX).wide (Nat.le_refl _) (Nat.le_of_eq (by simp [World.setCell])),?_⟩
 exact bel
theorem OwnS.grownP {w w':World} {lo hi b n:Nat} {A:Option Addr} {c:Nat} {ss:List ByteArray} {v:Value} {xs:List Value} (ho:OwnS w lo hi A c ss) (hp:w.ownsRow b 105 3 v n xs) (hg:w.grownBy w' v.ownBlock):OwnS w' lo hi A c ss :=
 ⟨own_grown ho.row hg (fun k hk he=>own_ne_type ho.row hp (by decide) k hk he),ho.top⟩
theorem OwnSt.grownP {w w':World} {lo hi b n:Nat} {A:Option Addr} {c:Nat} {st:List PStep} {v:Value} {xs:List Value} (ho:OwnSt w lo hi A c st) (hp:w.ownsRow b 105 3 v n xs) (hg:w.grownBy w' v.ownBlock):OwnSt w' lo hi A c st :=
 ⟨own_grown ho.row hg (fun k hk he=>own_ne_type ho.row hp (by decide) k hk he),ho.top⟩
theorem OwnD.grownP {w w':World} {lo hi b n:Nat} {A1 A2 A3:Option Addr} {c1 c2 c3:Nat} {D:PDraft} {v:Value} {xs:List Value} (ho:OwnD w lo hi A1 c1 A2 c2 A3 c3 D) (hp:w.ownsRow b 105 3 v n xs) (hg:w.grownBy w' v.ownBlock):OwnD w' lo hi A1 c1 A2 c2 A3 c3 D:=⟨ho.o1.grownP hp hg,ho.o2.grownP hp hg,ho.o3.grownP hp hg,ho.ne⟩
theorem OwnDW.grownP {w w':World} {lo hi b n:Nat} {A1 A2 A3:Option Addr} {c1 c2 c3:Nat} {D:PDraft} {v:Value} {xs:List Value} (ho:OwnDW w lo hi A1 c1 A2 c2 A3 c3 D) (hp:w.ownsRow b 105 3 v n xs) (hg:w.grownBy w' v.ownBlock):OwnDW w' lo hi A1 c1 A2 c2 A3 c3 D:=⟨ho.o1.grownP hp hg,ho.o2.grownP hp hg,ho.o3.elim fun c0 h3=>⟨c0,h3.grownP hp hg⟩,ho.ne⟩
theorem OwnItems.grownP {w w':World} {lo hi b n N c:Nat} {A:Option Addr} {L:List RItem} {v:Value} {xs:List Value} (ho:OwnItems w lo hi A N c L) (hp:w.ownsRow b 105 3 v n xs) (hg:w.grownBy w' v.ownBlock):OwnItems w' lo hi A N c L :=
 ⟨own_grown ho.row hg (fun k hk he=>own_ne_type ho.row hp (by decide) k hk he),ho.top,fun r hr=>(ho.in_ r hr).grownP hp hg,ho.apart⟩
set_option maxHeartbeats 6400000 in
theorem i_workCopied (d1 f1:Int) (ss1:List ByteArray) (d2 f2:Int) (ss2:List ByteArray) (st:List PStep) (P:List PItem) (pp:List PPaper) (m:Int) (B:Nat) (A1 A2 A3 A4 A5:Option Addr) (c1 c2 c3 c4 c5:Nat) (w:World) (hS:RdWork w B A1 A2 A3 A4 c4 A5 ⟨d1,f1,ss1,d2,f2,ss2,st⟩ P pp) (hB:B≤w.heap.size) :
  Calls Tryz.prog 41 #[.agg #[.int .i64 d1,.int .i64 f1,.slice A1 ss1.length c1,.int .i64 d2,.int .i64 f2,.slice A2 ss2.length c2,.slice A3 st.length c3,.slice A4 P.length c4,.slice A5 pp.length c5,.int .i64 m]] w (UWork d1 f1 ss1 d2 f2 ss2 st P pp m w):=by
 obtain ⟨L,hpl,hL⟩:=hS.i
 have HPL:=Lib.hid hpl
 have hpn:=hS.p.nb
 clear hpl
 go_enter Tryz.func41,Tryz.ntmps41
 go_wp2
 have hbW:Below w.heap.size w ((w.alloc (.cells #[.int .i64 d1,.int .i64 f1,.slice A1 ss1.length c1,.int .i64 d2,.int .i64 f2,.slice A2 ss2.length c2,.slice A3 st.length c3,.slice A4 P.length c4,.slice A5 pp.length c5,.int .i64 m] 33)).alloc (.cells #[.int .i64 0,.int .i64 0,.slice none 0 0,.int .i64 0,.int .i64 0,.slice none 0 0,.slice none 0 0,.slice none 0 0,.slice none 0 0,.int .i64 0] 33)):=bel
 have hk1:=box_first w (.cells #[.int .i64 d1,.int .i64 f1,.slice A1 ss1.length c1,.int .i64 d2,.int .i64 f2,.slice A2 ss2.length c2,.slice A3 st.length c3,.slice A4 P.length c4,.slice A5 pp.length c5,.int .i64 m] 33) (.cells #[.int .i64 0,.int .i64 0,.slice none 0 0,.int .i64 0,.int .i64 0,.slice none 0 0,.slice none 0 0,.slice none 0 0,.slice none 0 0,.int .i64 0] 33)
 have hk2:=box_second w (.cells #[.int .i64 d1,.int .i64 f1,.slice A1 ss1.length c1,.int .i64 d2,.int .i64 f2,.slice A2 ss2.length c2,.slice A3 st.length c3,.slice A4 P.length c4,.slice A5 pp.length c5,.int .i64 m] 33) (.cells #[.int .i64 0,.int .i64 0,.slice none 0 0,.int .i64 0,.int .i64 0,.slice none 0 0,.slice none 0 0,.slice none 0 0,.slice none 0 0,.int .i64 0] 33)
 generalize ((w.alloc (.cells #[.int .i64 d1,.int .i64 f1,.slice A1 ss1.length c1,.int .i64 d2,.int .i64 f2,.slice A2 ss2.length c2,.slice A3 st.length c3,.slice A4 P.length c4,.slice A5 pp.length c5,.int .i64 m] 33)).alloc (.cells #[.int .i64 0,.int .i64 0,.slice none 0 0,.int .i64 0,.int .i64 0,.slice none 0 0,.slice none 0 0,.slice none 0 0,.slice none 0 0,.int .i64 0] 33))=w0 at *
 have hzw:=hbW.size
 have hz0_:=blk_lt hk1
 have hz1_:=blk_lt hk2
 obtain ⟨hx0,hx1,hx2,hx3,hx4,hx5,hx6,hx7,hx8,hx9,hxl⟩:=blk10 hk1
 have gD:=hS.d.below (hbW.mono hB)
 have gI:=hL.below (hbW.mono hB)
 have gP:=hS.p.below (hbW.mono hB)
 have hB0:B≤w0.heap.size:=by omega
 have hB1:B≤w.heap.size+1:=by omega
 have hz1q:w.heap.size+1≤w0.heap.size:=by omega
 go_region_held3 (fun W=>(∀ b o,b<w.heap.size+1→W.cell? ⟨b,o,none⟩=(w0).cell? ⟨b,o,none⟩)∧(∀ b o,b<w.heap.size+1→W.frozen? ⟨b,o,none⟩=(w0).frozen? ⟨b,o,none⟩)∧Below (w.heap.size+1) (w0) W) (exact keep_of bel) (first|(go_at_call 84;have hq:=(‹_∧_∧Below _ _ _›).2.2;refine (u_draftCopied d1 f1 ss1 d2 f2 ss2 st B A1 A2 A3 c1 c2 c3 _ (gD.below (hq.mono hB1)) (Nat.le_trans hB0 hq.size)).mono ?_;rintro e w1 ⟨B1,e1,B2,e2,B3,e3,rfl,ho1,hb1⟩;have hqs1:=hq.size;have hbs1:=hb1.size;(try simp at hqs1);(try simp at hbs1);(have hb1X:Below w0.heap.size w0 w1:=(by first|exact hb1|exact ⟨hb1.os,hb1.tape,hb1.output,hb1.size,hb1.block⟩));(have ho1X:OwnD w1 w0.heap.size w1.heap.size B1 e1 B2 e2 B3 e3 ⟨d1,f1,ss1,d2,f2,ss2,st⟩:=ho1);(have hkk1:=blk_next hk2 hb1X))|(go_at_call 85;have hq:=(‹_∧_∧Below _ _ _›).2.2;refine (u_copyItems P B A4 P.length c4 L _ HPL.out (gI.below (hq.mono hB1)) (Nat.le_trans hB0 hq.size)).mono ?_;rintro e w2 ⟨B4,e4,L4,rfl,hp4,ho4,hb2⟩;(have HP4:=Lib.hid hp4);clear hp4;have hqs2:=hq.size;have hbs2:=hb2.size;(try simp at hqs2);(try simp at hbs2);(have hb2X:Below w1.heap.size w1 w2:=(by first|exact hb2|exact ⟨hb2.os,hb2.tape,hb2.output,hb2.size,hb2.block⟩));(have ho4X:OwnItems w2 w1.heap.size w2.heap.size B4 P.length e4 L4:=ho4);(have ho1Y:=ho1X.below hb2X);(have hkk2:=blk_next hkk1 hb2X))|(go_at_call 86;have hq:=(‹_∧_∧Below _ _ _›).2.2;refine (clone_paper B A5 pp.length c5 pp _ (gP.below (hq.mono hB1)) (Nat.le_trans hB0 hq.size)).mono ?_;rintro e w3 ⟨B5,e5,rfl,ho5,hb3⟩;have hqs3:=hq.size;have hbs3:=hb3.size;(try simp at hqs3);(try simp at hbs3);(have hb3X:Below w2.heap.size w2 w3:=(by first|exact hb3|exact ⟨hb3.os,hb3.tape,hb3.output,hb3.size,hb3.block⟩));(have ho5X:OwnP w3 w2.heap.size w3.heap.size B5 e5 pp:=OwnP.of ho5 (Nat.le_refl _));(have ho1Z:=ho1Y.below hb3X);(have ho4Z:=ho4X.below hb3X);(have hkk3:=blk_next hkk2 hb3X);obtain ⟨hv0,hv1,hv2,hv3,hv4,hv5,hv6,hv7,hv8,hv9,hvl⟩:=blk10 hkk3;obtain ⟨⟨hf0,hf1,hf2,hf3,hf4⟩,hf5,hf6,hf7,hf8,hf9⟩:=blk10f hkk3))
 all_goals (
  go_wp2
  have hbx3:Below w.heap.size w w3:=hbW.trans ((hb1X.mono hzw).trans ((hb2X.mono (Nat.le_trans hzw hb1X.size)).trans (hb3X.mono (Nat.le_trans (Nat.le_trans hzw hb1X.size) hb2X.size))))
  have hs1X:=hb1X.size
  have hs2X:=hb2X.size
  have hs3X:=hb3X.size
  refine bodyPost_ret (v:=.agg #[.int .i64 d1,.int .i64 f1,.slice B1 ss1.length e1,.int .i64 d2,.int .i64 f2,.slice B2 ss2.length e2,.slice B3 st.length e3,.slice B4 P.length e4,.slice B5 pp.length e5,.int .i64 m]) (by simp [results,Tryz.results41,go_sem, *]) rfl ?_
  have hbx:=boxAt_of hkk3
  have HBX:=hide hbx3
  clear hbx3
  refine ⟨B1,e1,B2,e2,B3,e3,B4,e4,B5,e5,rfl,OwnW.mk3 ((OwnDW.of ho1Z).boxy (by repeat (first|(with_reducible exact Boxy.refl _)|(with_reducible refine Boxy.drew ?_)|(with_reducible refine Boxy.drewN ?_ _)|(with_reducible refine Boxy.alloc ?_ _)|((with_reducible refine Boxy.setCell ?_ ?hbs _);(case hbs=>first|(with_reducible exact .inl (by assumption))|exact .inl (by assumption)|exact .inr (by simp)|exact .inr (by simp;omega)))))) HP4.out (ho4Z.boxy (by repeat (first|(with_reducible exact Boxy.refl _)|(with_reducible refine Boxy.drew ?_)|(with_reducible refine Boxy.drewN ?_ _)|(with_reducible refine Boxy.alloc ?_ _)|((with_reducible refine Boxy.setCell ?_ ?hbs _);(case hbs=>first|(with_reducible exact .inl (by assumption))|exact .inl (by assumption)|exact .inr (by simp)|exact .inr (by simp;omega)))))) (ho5X.boxy (by repeat (first|(with_reducible exact Boxy.refl _)|(with_reducible refine Boxy.drew ?_)|(with_reducible refine Boxy.drewN ?_ _)|(with_reducible refine Boxy.alloc ?_ _)|((with_reducible refine Boxy.setCell ?_ ?hbs _);(case hbs=>first|(with_reducible exact .inl (by assumption))|exact .inl (by assumption)|exact .inr (by simp)|exact .inr (by simp;omega)))))) (by simp [World.setCell];omega) (by omega),?_⟩
  have hbx3:=unhide HBX
  clear hb1 hb2 hb1X hb2X hb3X
  exact bel)
theorem OwnP.pin {w:World} {lo k c:Nat} {A:Option Addr} {l:List PPaper} (ho:w.ownsRow lo 105 3 (.slice A l.length c) l.length (l.flatMap paperCells)) (h:(Value.slice A l.length c).ownBlock=some k):OwnP w k (k+1) A c l :=
 ⟨own_lo ho (fun j hj=>by rw [h] at hj;injection hj with hj;omega),fun j hj=>by rw [h] at hj;injection hj with hj;omega⟩
set_option maxHeartbeats 6400000 in
theorem s_l38Copy (d1 f1:Int) (ss1:List ByteArray) (d2 f2:Int) (ss2:List ByteArray) (st:List PStep) (P:List PItem) (pp:List PPaper) (m:Int) (B:Nat) (A1 A2 A3 A4 A5:Option Addr) (c1 c2 c3 c4 c5:Nat) (w:World) (hS:RdWork w B A1 A2 A3 A4 c4 A5 ⟨d1,f1,ss1,d2,f2,ss2,st⟩ P pp) (hB:B≤w.heap.size) :
  Calls Tryz.prog 125 #[.agg #[.int .i64 d1,.int .i64 f1,.slice A1 ss1.length c1,.int .i64 d2,.int .i64 f2,.slice A2 ss2.length c2,.slice A3 st.length c3,.slice A4 P.length c4,.slice A5 pp.length c5,.int .i64 m]] w (UWork d1 f1 ss1 d2 f2 ss2 st P pp m w):=by
 obtain ⟨L,hpl,hL⟩:=hS.i
 have HPL:=Lib.hid hpl
 have hpn:=hS.p.nb
 clear hpl
 have hone:=paperCells_one pp
 have HONE:=hide hone
 clear hone
 obtain ⟨i0,hi0,hz0,hz1,hz2⟩:=info_parts info_paperCells
 go_enter Tryz.func125,Tryz.ntmps125
 go_wp2
 have hbW:Below w.heap.size w ((w.alloc (.cells #[.int .i64 d1,.int .i64 f1,.slice A1 ss1.length c1,.int .i64 d2,.int .i64 f2,.slice A2 ss2.length c2,.slice A3 st.length c3,.slice A4 P.length c4,.slice A5 pp.length c5,.int .i64 m] 33)).alloc (.cells #[.int .i64 0,.int .i64 0,.slice none 0 0,.int .i64 0,.int .i64 0,.slice none 0 0,.slice none 0 0,.slice none 0 0,.slice none 0 0,.int .i64 0] 33)):=bel
 have hk1:=box_first w (.cells #[.int .i64 d1,.int .i64 f1,.slice A1 ss1.length c1,.int .i64 d2,.int .i64 f2,.slice A2 ss2.length c2,.slice A3 st.length c3,.slice A4 P.length c4,.slice A5 pp.length c5,.int .i64 m] 33) (.cells #[.int .i64 0,.int .i64 0,.slice none 0 0,.int .i64 0,.int .i64 0,.slice none 0 0,.slice none 0 0,.slice none 0 0,.slice none 0 0,.int .i64 0] 33)
 have hk2:=box_second w (.cells #[.int .i64 d1,.int .i64 f1,.slice A1 ss1.length c1,.int .i64 d2,.int .i64 f2,.slice A2 ss2.length c2,.slice A3 st.length c3,.slice A4 P.length c4,.slice A5 pp.length c5,.int .i64 m] 33) (.cells #[.int .i64 0,.int .i64 0,.slice none 0 0,.int .i64 0,.int .i64 0,.slice none 0 0,.slice none 0 0,.slice none 0 0,.slice none 0 0,.int .i64 0] 33)
 generalize ((w.alloc (.cells #[.int .i64 d1,.int .i64 f1,.slice A1 ss1.length c1,.int .i64 d2,.int .i64 f2,.slice A2 ss2.length c2,.slice A3 st.length c3,.slice A4 P.length c4,.slice A5 pp.length c5,.int .i64 m] 33)).alloc (.cells #[.int .i64 0,.int .i64 0,.slice none 0 0,.int .i64 0,.int .i64 0,.slice none 0 0,.slice none 0 0,.slice none 0 0,.slice none 0 0,.int .i64 0] 33))=w0 at *
 have hzw:=hbW.size
 have hz0_:=blk_lt hk1
 have hz1_:=blk_lt hk2
 obtain ⟨hx0,hx1,hx2,hx3,hx4,hx5,hx6,hx7,hx8,hx9,hxl⟩:=blk10 hk1
 have gD:=hS.d.below (hbW.mono hB)
 have gI:=hL.below (hbW.mono hB)
 have gP:=hS.p.below (hbW.mono hB)
 have hB0:B≤w0.heap.size:=by omega
 have hB1:B≤w.heap.size+1:=by omega
 have hz1q:w.heap.size+1≤w0.heap.size:=by omega
 go_region_held3 (fun W=>(∀ b o,b<w.heap.size+1→W.cell? ⟨b,o,none⟩=(w0).cell? ⟨b,o,none⟩)∧(∀ b o,b<w.heap.size+1→W.frozen? ⟨b,o,none⟩=(w0).frozen? ⟨b,o,none⟩)∧Below (w.heap.size+1) (w0) W) (exact keep_of bel) (first|(go_at_call 172;have hq:=(‹_∧_∧Below _ _ _›).2.2;refine (u_l37Copy d1 f1 ss1 d2 f2 ss2 st B A1 A2 A3 c1 c2 c3 _ (gD.below (hq.mono hB1)) (Nat.le_trans hB0 hq.size)).mono ?_;rintro e w1 ⟨B1,e1,B2,e2,B3,e3,rfl,ho1,hb1⟩;have hqs1:=hq.size;have hbs1:=hb1.size;(try simp at hqs1);(try simp at hbs1);(have hkk1:w1.heap[w.heap.size+1]?=some (.cells #[.int .i64 0,.int .i64 0,.slice none 0 0,.int .i64 0,.int .i64 0,.slice none 0 0,.slice none 0 0,.slice none 0 0,.slice none 0 0,.int .i64 0] 33 (0,0)):=(by first|exact blk_next hk2 hb1|exact blk_next (blk_drew hk2) hb1|exact blk_next (blk_alloc hk2 _) hb1|exact blk_next (blk_drew (blk_alloc hk2 _)) hb1)))|(go_at_call 173;have hq:=(‹_∧_∧Below _ _ _›).2.2;refine (u_l35Copy P B A4 P.length c4 L _ HPL.out (gI.below (hq.mono hB1)) (Nat.le_trans hB0 hq.size)).mono ?_;rintro e w2 ⟨B4,e4,L4,rfl,hp4,ho4,hb2⟩;(have HP4:=Lib.hid hp4);clear hp4;have hqs2:=hq.size;have hbs2:=hb2.size;(try simp at hqs2);(try simp at hbs2);(have hkk2:w2.heap[w.heap.size+1]?=some (.cells #[.int .i64 0,.int .i64 0,.slice none 0 0,.int .i64 0,.int .i64 0,.slice none 0 0,.slice none 0 0,.slice none 0 0,.slice none 0 0,.int .i64 0] 33 (0,0)):=(by first|exact blk_next hkk1 hb2|exact blk_next (blk_drew hkk1) hb2|exact blk_next (blk_alloc hkk1 _) hb2|exact blk_next (blk_drew (blk_alloc hkk1 _)) hb2)))|((have ho1X:OwnD w1 (w0.heap.size+1) w1.heap.size B1 e1 B2 e2 B3 e3 ⟨d1,f1,ss1,d2,f2,ss2,st⟩:=ho1.wide (by first|exact Nat.le_refl _|simp) (Nat.le_refl _));(have ho4X:OwnItems w2 (w1.heap.size) w2.heap.size B4 P.length e4 L4:=ho4.wide (by first|exact Nat.le_refl _|simp) (Nat.le_refl _));(have hb2X:Below w1.heap.size w1 w2:=(by first|exact hb2|exact ⟨hb2.os,hb2.tape,hb2.output,hb2.size,hb2.block⟩));(have hb1X:Below (w0.alloc (.cells #[] 105)).heap.size (w0.alloc (.cells #[] 105)) w1:=(by first|exact hb1|exact ⟨hb1.os,hb1.tape,hb1.output,hb1.size,hb1.block⟩));(have hoE:World.ownsRow w2 w0.heap.size 105 3 (.slice (some ⟨w0.heap.size,0,none⟩) 0 0) 0 []:=own_below (own_below (made_at w0 _ _ rfl (by omega)) hb1X) hb2X);(have ho1Y:=ho1X.below hb2X);refine step_append_any _ rfl (.tmp 9) (.tmp 11) _ rfl w0.heap.size 105 i0 _ 3 24 Tryz.underlying31 hi0 hz0 hz1 hz2 rfl (by omega) (.slice (some ⟨w0.heap.size,0,none⟩) 0 0) 0 [] rfl ?_ B A5 pp.length c5 (pp.flatMap paperCells) rfl ?_ (unhide HONE) ?_ ?_ ?_ ?_;(first|exact hoE|exact ⟨hoE.1,hoE.2⟩);(have hq:=(‹_∧_∧Below _ _ _›).2.2;exact gP.rd.below (hq.mono hB1));(unfold maxLen;omega);omega;(have hq:=(‹_∧_∧Below _ _ _›).2.2;exact hq.size);intro v3 w3 ho3 hg3 hat3;(have hg3X:World.grownBy w2 w3 (Value.ownBlock (.slice (some ⟨w0.heap.size,0,none⟩) 0 0)):=(by first|exact hg3|exact ⟨hg3.os,hg3.tape,hg3.output,hg3.size,hg3.block⟩));(have hz3:=hg3X.size;(try simp at hz3));(have hq3:=(‹_∧_∧Below _ _ _›).2.2);(have hbw3:=grown_below hg3 (B:=w.heap.size+1) (fun k hk=>Nat.le_trans hz1q (hoE.lt k hk).1) (Nat.le_trans hz1q hq3.size));(have hbq3:=hq3.trans hbw3);(have hkk3:=blk_markedk (hkk2) hg3X hoE (by decide));(have ho1Z:=ho1Y.grownP hoE hg3X);(have ho4Z:=(ho4X).grownP hoE hg3X);clear hg3 hbw3;obtain ⟨hv0,hv1,hv2,hv3,hv4,hv5,hv6,hv7,hv8,hv9,hvl⟩:=blk10 hkk3;obtain ⟨⟨hf0,hf1,hf2,hf3,hf4⟩,hf5,hf6,hf7,hf8,hf9⟩:=blk10f hkk3;rw [Nat.zero_add,List.nil_append] at ho3;obtain ⟨B5,e5,rfl⟩:=own_slice ho3;(have hsz1:=hb1X.size);(have hsz2:=hb2X.size);(simp at hsz1);(have hFin:∃ l1 l2 k,OwnD w3 l1 w1.heap.size B1 e1 B2 e2 B3 e3 ⟨d1,f1,ss1,d2,f2,ss2,st⟩∧OwnItems w3 l2 w2.heap.size B4 P.length e4 L4∧OwnP w3 k (k+1) B5 e5 pp∧(w0.heap.size≤l1∧w1.heap.size≤w3.heap.size∧w1.heap.size≤l2∧w2.heap.size≤w3.heap.size∧w0.heap.size≤k∧k+1≤w3.heap.size∧w0.heap.size≤w1.heap.size)∧(w1.heap.size≤k∨k+1≤l1)∧(w2.heap.size≤k∨k+1≤l2):=(by rcases hat3 with hq9|hq9;(have hlt9:=(ho3.lt _ (show (Value.slice B5 pp.length e5).ownBlock=some w0.heap.size from hq9)).2;exact ⟨w0.heap.size+1,w1.heap.size,w0.heap.size,ho1Z,ho4Z,OwnP.pin ho3 hq9,by omega,by omega,by omega⟩);(have hq8:(Value.slice B5 pp.length e5).ownBlock=some w2.heap.size:=hq9;have hlt9:=(ho3.lt _ hq8).2;exact ⟨w0.heap.size+1,w1.heap.size,w2.heap.size,ho1Z,ho4Z,OwnP.pin ho3 hq8,by omega,by omega,by omega⟩)));(have HFIN:=hide hFin);clear hFin hat3)|((have ho1X:OwnD w1 (w0.heap.size) w1.heap.size B1 e1 B2 e2 B3 e3 ⟨d1,f1,ss1,d2,f2,ss2,st⟩:=ho1.wide (by first|exact Nat.le_refl _|simp) (Nat.le_refl _));(have ho4X:OwnItems w2 (w1.heap.size+1) w2.heap.size B4 P.length e4 L4:=ho4.wide (by first|exact Nat.le_refl _|simp) (Nat.le_refl _));(have hb2X:Below (w1.alloc (.cells #[] 105)).heap.size (w1.alloc (.cells #[] 105)) w2:=(by first|exact hb2|exact ⟨hb2.os,hb2.tape,hb2.output,hb2.size,hb2.block⟩));(have hb1X:Below w0.heap.size w0 w1:=(by first|exact hb1|exact ⟨hb1.os,hb1.tape,hb1.output,hb1.size,hb1.block⟩));(have hoE:World.ownsRow w2 w0.heap.size 105 3 (.slice (some ⟨w1.heap.size,0,none⟩) 0 0) 0 []:=own_below (made_at w1 _ _ rfl hb1X.size) hb2X);(have ho1Y:=(ho1X.alloc (.cells #[] 105)).below hb2X);refine step_append_any _ rfl (.tmp 9) (.tmp 11) _ rfl w0.heap.size 105 i0 _ 3 24 Tryz.underlying31 hi0 hz0 hz1 hz2 rfl (by omega) (.slice (some ⟨w1.heap.size,0,none⟩) 0 0) 0 [] rfl ?_ B A5 pp.length c5 (pp.flatMap paperCells) rfl ?_ (unhide HONE) ?_ ?_ ?_ ?_;(first|exact hoE|exact ⟨hoE.1,hoE.2⟩);(have hq:=(‹_∧_∧Below _ _ _›).2.2;exact gP.rd.below (hq.mono hB1));(unfold maxLen;omega);omega;(have hq:=(‹_∧_∧Below _ _ _›).2.2;exact hq.size);intro v3 w3 ho3 hg3 hat3;(have hg3X:World.grownBy w2 w3 (Value.ownBlock (.slice (some ⟨w1.heap.size,0,none⟩) 0 0)):=(by first|exact hg3|exact ⟨hg3.os,hg3.tape,hg3.output,hg3.size,hg3.block⟩));(have hz3:=hg3X.size;(try simp at hz3));(have hq3:=(‹_∧_∧Below _ _ _›).2.2);(have hbw3:=grown_below hg3 (B:=w.heap.size+1) (fun k hk=>Nat.le_trans hz1q (hoE.lt k hk).1) (Nat.le_trans hz1q hq3.size));(have hbq3:=hq3.trans hbw3);(have hkk3:=blk_markedk (hkk2) hg3X hoE (by decide));(have ho1Z:=ho1Y.grownP hoE hg3X);(have ho4Z:=(ho4X).grownP hoE hg3X);clear hg3 hbw3;obtain ⟨hv0,hv1,hv2,hv3,hv4,hv5,hv6,hv7,hv8,hv9,hvl⟩:=blk10 hkk3;obtain ⟨⟨hf0,hf1,hf2,hf3,hf4⟩,hf5,hf6,hf7,hf8,hf9⟩:=blk10f hkk3;rw [Nat.zero_add,List.nil_append] at ho3;obtain ⟨B5,e5,rfl⟩:=own_slice ho3;(have hsz1:=hb1X.size);(have hsz2:=hb2X.size);(simp at hsz2);(have hFin:∃ l1 l2 k,OwnD w3 l1 w1.heap.size B1 e1 B2 e2 B3 e3 ⟨d1,f1,ss1,d2,f2,ss2,st⟩∧OwnItems w3 l2 w2.heap.size B4 P.length e4 L4∧OwnP w3 k (k+1) B5 e5 pp∧(w0.heap.size≤l1∧w1.heap.size≤w3.heap.size∧w1.heap.size≤l2∧w2.heap.size≤w3.heap.size∧w0.heap.size≤k∧k+1≤w3.heap.size∧w0.heap.size≤w1.heap.size)∧(w1.heap.size≤k∨k+1≤l1)∧(w2.heap.size≤k∨k+1≤l2):=(by rcases hat3 with hq9|hq9;(have hlt9:=(ho3.lt _ (show (Value.slice B5 pp.length e5).ownBlock=some w1.heap.size from hq9)).2;exact ⟨w0.heap.size,w1.heap.size+1,w1.heap.size,ho1Z,ho4Z,OwnP.pin ho3 hq9,by omega,by omega,by omega⟩);(have hq8:(Value.slice B5 pp.length e5).ownBlock=some w2.heap.size:=hq9;have hlt9:=(ho3.lt _ hq8).2;exact ⟨w0.heap.size,w1.heap.size+1,w2.heap.size,ho1Z,ho4Z,OwnP.pin ho3 hq8,by omega,by omega,by omega⟩)));(have HFIN:=hide hFin);clear hFin hat3)|((have ho1X:OwnD w1 (w0.heap.size) w1.heap.size B1 e1 B2 e2 B3 e3 ⟨d1,f1,ss1,d2,f2,ss2,st⟩:=ho1.wide (by first|exact Nat.le_refl _|simp) (Nat.le_refl _));(have ho4X:OwnItems w2 (w1.heap.size) w2.heap.size B4 P.length e4 L4:=ho4.wide (by first|exact Nat.le_refl _|simp) (Nat.le_refl _));(have hb2X:Below w1.heap.size w1 w2:=(by first|exact hb2|exact ⟨hb2.os,hb2.tape,hb2.output,hb2.size,hb2.block⟩));(have hb1X:Below w0.heap.size w0 w1:=(by first|exact hb1|exact ⟨hb1.os,hb1.tape,hb1.output,hb1.size,hb1.block⟩));(have hoE:World.ownsRow (w2.alloc (.cells #[] 105)) w0.heap.size 105 3 (.slice (some ⟨w2.heap.size,0,none⟩) 0 0) 0 []:=made_at w2 _ _ rfl (Nat.le_trans hb1X.size hb2X.size));(have ho1Y:=(ho1X.below hb2X).alloc (.cells #[] 105));refine step_append_any _ rfl (.tmp 9) (.tmp 11) _ rfl w0.heap.size 105 i0 _ 3 24 Tryz.underlying31 hi0 hz0 hz1 hz2 rfl (by omega) (.slice (some ⟨w2.heap.size,0,none⟩) 0 0) 0 [] rfl ?_ B A5 pp.length c5 (pp.flatMap paperCells) rfl ?_ (unhide HONE) ?_ ?_ ?_ ?_;(first|exact hoE|exact ⟨hoE.1,hoE.2⟩);(have hq:=(‹_∧_∧Below _ _ _›).2.2;exact gP.rd.below (hq.mono hB1));(unfold maxLen;omega);omega;(have hq:=(‹_∧_∧Below _ _ _›).2.2;exact hq.size);intro v3 w3 ho3 hg3 hat3;(have hg3X:World.grownBy (w2.alloc (.cells #[] 105)) w3 (Value.ownBlock (.slice (some ⟨w2.heap.size,0,none⟩) 0 0)):=(by first|exact hg3|exact ⟨hg3.os,hg3.tape,hg3.output,hg3.size,hg3.block⟩));(have hz3:=hg3X.size;(try simp at hz3));(have hq3:=(‹_∧_∧Below _ _ _›).2.2);(have hbw3:=grown_below hg3 (B:=w.heap.size+1) (fun k hk=>Nat.le_trans hz1q (hoE.lt k hk).1) (Nat.le_trans hz1q hq3.size));(have hbq3:=hq3.trans hbw3);(have hkk3:=blk_markedk (blk_alloc hkk2 _) hg3X hoE (by decide));(have ho1Z:=ho1Y.grownP hoE hg3X);(have ho4Z:=(ho4X.alloc (.cells #[] 105)).grownP hoE hg3X);clear hg3 hbw3;obtain ⟨hv0,hv1,hv2,hv3,hv4,hv5,hv6,hv7,hv8,hv9,hvl⟩:=blk10 hkk3;obtain ⟨⟨hf0,hf1,hf2,hf3,hf4⟩,hf5,hf6,hf7,hf8,hf9⟩:=blk10f hkk3;rw [Nat.zero_add,List.nil_append] at ho3;obtain ⟨B5,e5,rfl⟩:=own_slice ho3;(have hsz1:=hb1X.size);(have hsz2:=hb2X.size);(have hFin:∃ l1 l2 k,OwnD w3 l1 w1.heap.size B1 e1 B2 e2 B3 e3 ⟨d1,f1,ss1,d2,f2,ss2,st⟩∧OwnItems w3 l2 w2.heap.size B4 P.length e4 L4∧OwnP w3 k (k+1) B5 e5 pp∧(w0.heap.size≤l1∧w1.heap.size≤w3.heap.size∧w1.heap.size≤l2∧w2.heap.size≤w3.heap.size∧w0.heap.size≤k∧k+1≤w3.heap.size∧w0.heap.size≤w1.heap.size)∧(w1.heap.size≤k∨k+1≤l1)∧(w2.heap.size≤k∨k+1≤l2):=(by rcases hat3 with hq9|hq9;(have hlt9:=(ho3.lt _ (show (Value.slice B5 pp.length e5).ownBlock=some w2.heap.size from hq9)).2;exact ⟨w0.heap.size,w1.heap.size,w2.heap.size,ho1Z,ho4Z,OwnP.pin ho3 hq9,by omega,by omega,by omega⟩);(have hq8:(Value.slice B5 pp.length e5).ownBlock=some (w2.heap.size+1):=(hq9.trans (by simp));have hlt9:=(ho3.lt _ hq8).2;exact ⟨w0.heap.size,w1.heap.size,(w2.heap.size+1),ho1Z,ho4Z,OwnP.pin ho3 hq8,by omega,by omega,by omega⟩)));(have HFIN:=hide hFin);clear hFin hat3))
 all_goals (
  go_wp2
  have hbx3:Below w.heap.size w w3:=hbW.trans (hbq3.mono (by omega))
  refine bodyPost_ret (v:=.agg #[.int .i64 d1,.int .i64 f1,.slice B1 ss1.length e1,.int .i64 d2,.int .i64 f2,.slice B2 ss2.length e2,.slice B3 st.length e3,.slice B4 P.length e4,.slice B5 pp.length e5,.int .i64 m]) (by simp [results,Tryz.results125,go_sem, *]) rfl ?_
  have hbx:=boxAt_of hkk3
  have HBX:=hide hbx3
  clear hbx3
  obtain ⟨l1,l2,k,q1,q4,q5,hr1,hr2,hr3⟩:=unhide HFIN
  refine ⟨B1,e1,B2,e2,B3,e3,B4,e4,B5,e5,rfl,OwnW.mk3 ((OwnDW.of q1).boxy (by repeat (first|(with_reducible exact Boxy.refl _)|(with_reducible refine Boxy.drew ?_)|(with_reducible refine Boxy.drewN ?_ _)|(with_reducible refine Boxy.alloc ?_ _)|((with_reducible refine Boxy.setCell ?_ ?hbs _);(case hbs=>first|(with_reducible exact .inl (by assumption))|exact .inl (by assumption)|exact .inr (by simp)|exact .inr (by simp;omega)))))) HP4.out (q4.boxy (by repeat (first|(with_reducible exact Boxy.refl _)|(with_reducible refine Boxy.drew ?_)|(with_reducible refine Boxy.drewN ?_ _)|(with_reducible refine Boxy.alloc ?_ _)|((with_reducible refine Boxy.setCell ?_ ?hbs _);(case hbs=>first|(with_reducible exact .inl (by assumption))|exact .inl (by assumption)|exact .inr (by simp)|exact .inr (by simp;omega)))))) (q5.boxy (by repeat (first|(with_reducible exact Boxy.refl _)|(with_reducible refine Boxy.drew ?_)|(with_reducible refine Boxy.drewN ?_ _)|(with_reducible refine Boxy.alloc ?_ _)|((with_reducible refine Boxy.setCell ?_ ?hbs _);(case hbs=>first|(with_reducible exact .inl (by assumption))|exact .inl (by assumption)|exact .inr (by simp)|exact .inr (by simp;omega)))))) (by simp [World.setCell];omega) (by omega),?_⟩
  have hbx3:=unhide HBX
  clear hb1 hb2 hb1X hb2X hq3 hbq3
  exact bel)
set_option maxHeartbeats 3200000 in
theorem i_wchanged_yes (d1 f1:Int) (ss1:List ByteArray) (d2 f2:Int) (ss2:List ByteArray) (st:List PStep) (P:List PItem) (pp:List PPaper) (m:Int) (d1o f1o:Int) (ss1o:List ByteArray) (d2o f2o:Int) (ss2o:List ByteArray) (sto:List PStep) (Po:List PItem) (ppo:List PPaper) (mo:Int) (A1 A2 A3 A4 A5:Option Addr) (c1 c2 c3 c4 c5:Nat) (E1 E2 E3 E4 E5:Option Addr) (g1 g2 g3 g4 g5:Nat) (B B2:Nat) (w:World) (hS:RdWork w B A1 A2 A3 A4 c4 A5 ⟨d1,f1,ss1,d2,f2,ss2,st⟩ P pp) (hB:B≤w.heap.size) (hO:RdWork w B2 E1 E2 E3 E4 g4 E5 ⟨d1o,f1o,ss1o,d2o,f2o,ss2o,sto⟩ Po ppo) (hB2:B2≤w.heap.size) (h1:workOk ⟨⟨d1,f1,ss1,d2,f2,ss2,st⟩,P,pp,m⟩=true) (h2:workOk ⟨⟨d1o,f1o,ss1o,d2o,f2o,ss2o,sto⟩,Po,ppo,mo⟩=true) :
  Calls Tryz.prog 194 #[.agg #[.int .i64 d1,.int .i64 f1,.slice A1 ss1.length c1,.int .i64 d2,.int .i64 f2,.slice A2 ss2.length c2,.slice A3 st.length c3,.slice A4 P.length c4,.slice A5 pp.length c5,.int .i64 m],.agg #[.int .i64 d1o,.int .i64 f1o,.slice E1 ss1o.length g1,.int .i64 d2o,.int .i64 f2o,.slice E2 ss2o.length g2,.slice E3 sto.length g3,.slice E4 Po.length g4,.slice E5 ppo.length g5,.int .i64 mo],.bool true] w fun e w'=>e=.returned (.tuple #[.agg #[.int .i64 d1o,.int .i64 f1o,.slice E1 ss1o.length g1,.int .i64 d2o,.int .i64 f2o,.slice E2 ss2o.length g2,.slice E3 sto.length g3,.slice E4 Po.length g4,.slice E5 ppo.length g5,.int .i64 mo],.bool true])∧Below w.heap.size w w':=by
 have H1:=Lib.hid h1
 have H2:=Lib.hid h2
 clear h1 h2
 go_enter Tryz.func194,Tryz.ntmps194
 go_wp2_with fail
 generalize e_:(World.alloc _ _)=w1
 symm at e_
 have k_a:=hkc e_ (blk_alloc (blk_alloc (bnk w.heap.size) _) _)
 have k_b:=hkc e_ (blk_alloc (bnk (w.heap.size+1)) _)
 have k_r:=hkc e_ (bnk (w.heap.size+1+1))
 have hX_:Boxy w w1:=by rw [e_];exact boxy
 have hb_:Below w.heap.size w w1:=by rw [e_];exact bel
 have c_w1:=hX_.size
 clear e_ hX_
 refine (i_WorkshopOk d1 f1 ss1 d2 f2 ss2 st P pp m B A1 A2 A3 A4 A5 c1 c2 c3 c4 c5 w1 (hS.below (hb_.mono hB)) (Nat.le_trans hB hb_.size)).mono ?_
 rw [H1.out]
 rintro e w2 ⟨rfl,b_⟩
 replace k_a:=blk_next k_a b_
 replace k_b:=blk_next k_b b_
 replace k_r:=blk_next k_r b_
 have c_w2:=b_.size
 replace hb_:=hb_.trans (b_.mono hb_.size)
 clear b_
 obtain ⟨x0b,x1b,x2b,x3b,x4b,x5b,x6b,x7b,x8b,x9b,xlb⟩:=blk10 k_b
 go_wp2_with fail
 clear x0b x1b x2b x3b x4b x5b x6b x7b x8b x9b xlb
 refine (i_WorkshopOk d1o f1o ss1o d2o f2o ss2o sto Po ppo mo B2 E1 E2 E3 E4 E5 g1 g2 g3 g4 g5 w2 (hO.below (hb_.mono hB2)) (Nat.le_trans hB2 hb_.size)).mono ?_
 rw [H2.out]
 rintro e w3 ⟨rfl,b_⟩
 replace k_a:=blk_next k_a b_
 replace k_b:=blk_next k_b b_
 replace k_r:=blk_next k_r b_
 have c_w3:=b_.size
 replace hb_:=hb_.trans (b_.mono hb_.size)
 clear b_
 obtain ⟨x0b,x1b,x2b,x3b,x4b,x5b,x6b,x7b,x8b,x9b,xlb⟩:=blk10 k_b
 obtain ⟨⟨x0r,x1r,x2r,x3r,x4r,x5r,x6r,x7r,x8r,x9r,xlr⟩,f0r,f1r,f2r,f3r,f4r,f5r,f6r,f7r,f8r,f9r⟩:=ba10 k_r
 go_wp2
 have qaa:=boxAt_of k_r
 refine bodyPost_ret (v:=.tuple #[.agg #[.int .i64 d1o,.int .i64 f1o,.slice E1 ss1o.length g1,.int .i64 d2o,.int .i64 f2o,.slice E2 ss2o.length g2,.slice E3 sto.length g3,.slice E4 Po.length g4,.slice E5 ppo.length g5,.int .i64 mo],.bool true]) (by simp [results,Tryz.results194,go_sem, *]) rfl ?_
 clear x0b x1b x2b x3b x4b x5b x6b x7b x8b x9b xlb x0r x1r x2r x3r x4r x5r x6r x7r x8r x9r xlr f0r f1r f2r f3r f4r f5r f6r f7r f8r f9r
 obtain ⟨wE,heE⟩:∃ x,x=((((((((((w3.setCell ⟨w.heap.size+1+1,0,none⟩ (.int .i64 d1o)).setCell ⟨w.heap.size+1+1,1,none⟩ (.int .i64 f1o)).setCell ⟨w.heap.size+1+1,2,none⟩ (.slice E1 ss1o.length g1)).setCell ⟨w.heap.size+1+1,3,none⟩ (.int .i64 d2o)).setCell ⟨w.heap.size+1+1,4,none⟩ (.int .i64 f2o)).setCell ⟨w.heap.size+1+1,5,none⟩ (.slice E2 ss2o.length g2)).setCell ⟨w.heap.size+1+1,6,none⟩ (.slice E3 sto.length g3)).setCell ⟨w.heap.size+1+1,7,none⟩ (.slice E4 Po.length g4)).setCell ⟨w.heap.size+1+1,8,none⟩ (.slice E5 ppo.length g5)).setCell ⟨w.heap.size+1+1,9,none⟩ (.int .i64 mo)):=⟨_,rfl⟩
 have hBW:Below w.heap.size w wE:=by rw [heE];exact bel
 have hsE:wE.heap.size=w3.heap.size:=by rw [heE];simp [World.setCell]
 rw [← heE]
 clear heE
 exact ⟨rfl,hBW⟩
set_option maxHeartbeats 3200000 in
theorem i_wchanged_no (d1 f1:Int) (ss1:List ByteArray) (d2 f2:Int) (ss2:List ByteArray) (st:List PStep) (P:List PItem) (pp:List PPaper) (m:Int) (d1o f1o:Int) (ss1o:List ByteArray) (d2o f2o:Int) (ss2o:List ByteArray) (sto:List PStep) (Po:List PItem) (ppo:List PPaper) (mo:Int) (A1 A2 A3 A4 A5:Option Addr) (c1 c2 c3 c4 c5:Nat) (E1 E2 E3 E4 E5:Option Addr) (g1 g2 g3 g4 g5:Nat) (b:Bool) (B B2:Nat) (w:World) (hS:RdWork w B A1 A2 A3 A4 c4 A5 ⟨d1,f1,ss1,d2,f2,ss2,st⟩ P pp) (hB:B≤w.heap.size) (hO:RdWork w B2 E1 E2 E3 E4 g4 E5 ⟨d1o,f1o,ss1o,d2o,f2o,ss2o,sto⟩ Po ppo) (hB2:B2≤w.heap.size) (hn:(b&&(workOk ⟨⟨d1,f1,ss1,d2,f2,ss2,st⟩,P,pp,m⟩&&workOk ⟨⟨d1o,f1o,ss1o,d2o,f2o,ss2o,sto⟩,Po,ppo,mo⟩))=false) :
  Calls Tryz.prog 194 #[.agg #[.int .i64 d1,.int .i64 f1,.slice A1 ss1.length c1,.int .i64 d2,.int .i64 f2,.slice A2 ss2.length c2,.slice A3 st.length c3,.slice A4 P.length c4,.slice A5 pp.length c5,.int .i64 m],.agg #[.int .i64 d1o,.int .i64 f1o,.slice E1 ss1o.length g1,.int .i64 d2o,.int .i64 f2o,.slice E2 ss2o.length g2,.slice E3 sto.length g3,.slice E4 Po.length g4,.slice E5 ppo.length g5,.int .i64 mo],.bool b] w (UWorkB d1 f1 ss1 d2 f2 ss2 st P pp m false w):=by
 cases b
 case false =>
  clear hn
  go_enter Tryz.func194,Tryz.ntmps194
  go_wp2_with fail
  generalize e_:(World.alloc _ _)=w1
  symm at e_
  have k_a:=hkc e_ (blk_alloc (blk_alloc (bnk w.heap.size) _) _)
  have k_b:=hkc e_ (blk_alloc (bnk (w.heap.size+1)) _)
  have k_r:=hkc e_ (bnk (w.heap.size+1+1))
  have hX_:Boxy w w1:=by rw [e_];exact boxy
  have hb_:Below w.heap.size w w1:=by rw [e_];exact bel
  have c_w1:=hX_.size
  clear e_ hX_
  refine (i_workCopied d1 f1 ss1 d2 f2 ss2 st P pp m B A1 A2 A3 A4 A5 c1 c2 c3 c4 c5 w1 (hS.below (hb_.mono hB)) (Nat.le_trans hB hb_.size)).mono ?_
  rintro e w2 ⟨B1,e1,B2q,e2,B3,e3,B4,e4,B5,e5,rfl,hon,b_⟩
  replace k_a:=blk_next k_a b_
  replace k_b:=blk_next k_b b_
  replace k_r:=blk_next k_r b_
  have c_w2:=b_.size
  replace hb_:=hb_.trans (b_.mono hb_.size)
  clear b_
  have o_c:=hon
  clear hon
  have hoW:=o_c.wide (lo':=w.heap.size) (hi':=w2.heap.size) (by omega) (Nat.le_refl _)
  clear o_c
  obtain ⟨⟨x0r,x1r,x2r,x3r,x4r,x5r,x6r,x7r,x8r,x9r,xlr⟩,f0r,f1r,f2r,f3r,f4r,f5r,f6r,f7r,f8r,f9r⟩:=ba10 k_r
  go_wp2
  have qaa:=boxAt_of k_r
  refine bodyPost_ret (v:=.tuple #[.agg #[.int .i64 d1,.int .i64 f1,.slice B1 ss1.length e1,.int .i64 d2,.int .i64 f2,.slice B2q ss2.length e2,.slice B3 st.length e3,.slice B4 P.length e4,.slice B5 pp.length e5,.int .i64 m],.bool false]) (by simp [results,Tryz.results194,go_sem, *]) rfl ?_
  clear x0r x1r x2r x3r x4r x5r x6r x7r x8r x9r xlr f0r f1r f2r f3r f4r f5r f6r f7r f8r f9r
  obtain ⟨wE,heE⟩:∃ x,x=((((((((((w2.setCell ⟨w.heap.size+1+1,0,none⟩ (.int .i64 d1)).setCell ⟨w.heap.size+1+1,1,none⟩ (.int .i64 f1)).setCell ⟨w.heap.size+1+1,2,none⟩ (.slice B1 ss1.length e1)).setCell ⟨w.heap.size+1+1,3,none⟩ (.int .i64 d2)).setCell ⟨w.heap.size+1+1,4,none⟩ (.int .i64 f2)).setCell ⟨w.heap.size+1+1,5,none⟩ (.slice B2q ss2.length e2)).setCell ⟨w.heap.size+1+1,6,none⟩ (.slice B3 st.length e3)).setCell ⟨w.heap.size+1+1,7,none⟩ (.slice B4 P.length e4)).setCell ⟨w.heap.size+1+1,8,none⟩ (.slice B5 pp.length e5)).setCell ⟨w.heap.size+1+1,9,none⟩ (.int .i64 m)):=⟨_,rfl⟩
  have hBX:Boxy w2 wE:=by rw [heE];exact boxy
  have hBW:Below w.heap.size w wE:=by rw [heE];exact bel
  have hsE:wE.heap.size=w2.heap.size:=by rw [heE];simp [World.setCell]
  rw [← heE]
  clear heE
  exact ⟨B1,e1,B2q,e2,B3,e3,B4,e4,B5,e5,rfl,(hoW.boxy hBX).wide (Nat.le_refl _) (by omega),hBW⟩
 case true =>
  cases h1:workOk ⟨⟨d1,f1,ss1,d2,f2,ss2,st⟩,P,pp,m⟩
  case false =>
   have H1:=Lib.hid h1
   clear hn h1
   go_enter Tryz.func194,Tryz.ntmps194
   go_wp2_with fail
   generalize e_:(World.alloc _ _)=w1
   symm at e_
   have k_a:=hkc e_ (blk_alloc (blk_alloc (bnk w.heap.size) _) _)
   have k_b:=hkc e_ (blk_alloc (bnk (w.heap.size+1)) _)
   have k_r:=hkc e_ (bnk (w.heap.size+1+1))
   have hX_:Boxy w w1:=by rw [e_];exact boxy
   have hb_:Below w.heap.size w w1:=by rw [e_];exact bel
   have c_w1:=hX_.size
   clear e_ hX_
   refine (i_WorkshopOk d1 f1 ss1 d2 f2 ss2 st P pp m B A1 A2 A3 A4 A5 c1 c2 c3 c4 c5 w1 (hS.below (hb_.mono hB)) (Nat.le_trans hB hb_.size)).mono ?_
   rw [H1.out]
   rintro e w2 ⟨rfl,b_⟩
   replace k_a:=blk_next k_a b_
   replace k_b:=blk_next k_b b_
   replace k_r:=blk_next k_r b_
   have c_w2:=b_.size
   replace hb_:=hb_.trans (b_.mono hb_.size)
   clear b_
   obtain ⟨x0a,x1a,x2a,x3a,x4a,x5a,x6a,x7a,x8a,x9a,xla⟩:=blk10 k_a
   go_wp2_with fail
   clear x0a x1a x2a x3a x4a x5a x6a x7a x8a x9a xla
   refine (i_workCopied d1 f1 ss1 d2 f2 ss2 st P pp m B A1 A2 A3 A4 A5 c1 c2 c3 c4 c5 w2 (hS.below (hb_.mono hB)) (Nat.le_trans hB hb_.size)).mono ?_
   rintro e w3 ⟨B1,e1,B2q,e2,B3,e3,B4,e4,B5,e5,rfl,hon,b_⟩
   replace k_a:=blk_next k_a b_
   replace k_b:=blk_next k_b b_
   replace k_r:=blk_next k_r b_
   have c_w3:=b_.size
   replace hb_:=hb_.trans (b_.mono hb_.size)
   clear b_
   have o_c:=hon
   clear hon
   have hoW:=o_c.wide (lo':=w.heap.size) (hi':=w3.heap.size) (by omega) (Nat.le_refl _)
   clear o_c
   obtain ⟨⟨x0r,x1r,x2r,x3r,x4r,x5r,x6r,x7r,x8r,x9r,xlr⟩,f0r,f1r,f2r,f3r,f4r,f5r,f6r,f7r,f8r,f9r⟩:=ba10 k_r
   go_wp2
   have qaa:=boxAt_of k_r
   refine bodyPost_ret (v:=.tuple #[.agg #[.int .i64 d1,.int .i64 f1,.slice B1 ss1.length e1,.int .i64 d2,.int .i64 f2,.slice B2q ss2.length e2,.slice B3 st.length e3,.slice B4 P.length e4,.slice B5 pp.length e5,.int .i64 m],.bool false]) (by simp [results,Tryz.results194,go_sem, *]) rfl ?_
   clear x0r x1r x2r x3r x4r x5r x6r x7r x8r x9r xlr f0r f1r f2r f3r f4r f5r f6r f7r f8r f9r
   obtain ⟨wE,heE⟩:∃ x,x=((((((((((w3.setCell ⟨w.heap.size+1+1,0,none⟩ (.int .i64 d1)).setCell ⟨w.heap.size+1+1,1,none⟩ (.int .i64 f1)).setCell ⟨w.heap.size+1+1,2,none⟩ (.slice B1 ss1.length e1)).setCell ⟨w.heap.size+1+1,3,none⟩ (.int .i64 d2)).setCell ⟨w.heap.size+1+1,4,none⟩ (.int .i64 f2)).setCell ⟨w.heap.size+1+1,5,none⟩ (.slice B2q ss2.length e2)).setCell ⟨w.heap.size+1+1,6,none⟩ (.slice B3 st.length e3)).setCell ⟨w.heap.size+1+1,7,none⟩ (.slice B4 P.length e4)).setCell ⟨w.heap.size+1+1,8,none⟩ (.slice B5 pp.length e5)).setCell ⟨w.heap.size+1+1,9,none⟩ (.int .i64 m)):=⟨_,rfl⟩
   have hBX:Boxy w3 wE:=by rw [heE];exact boxy
   have hBW:Below w.heap.size w wE:=by rw [heE];exact bel
   have hsE:wE.heap.size=w3.heap.size:=by rw [heE];simp [World.setCell]
   rw [← heE]
   clear heE
   exact ⟨B1,e1,B2q,e2,B3,e3,B4,e4,B5,e5,rfl,(hoW.boxy hBX).wide (Nat.le_refl _) (by omega),hBW⟩
  case true =>
   have h2:workOk ⟨⟨d1o,f1o,ss1o,d2o,f2o,ss2o,sto⟩,Po,ppo,mo⟩=false:=by rw [h1] at hn;simpa using hn
   have H1:=Lib.hid h1
   have H2:=Lib.hid h2
   clear hn h1 h2
   go_enter Tryz.func194,Tryz.ntmps194
   go_wp2_with fail
   generalize e_:(World.alloc _ _)=w1
   symm at e_
   have k_a:=hkc e_ (blk_alloc (blk_alloc (bnk w.heap.size) _) _)
   have k_b:=hkc e_ (blk_alloc (bnk (w.heap.size+1)) _)
   have k_r:=hkc e_ (bnk (w.heap.size+1+1))
   have hX_:Boxy w w1:=by rw [e_];exact boxy
   have hb_:Below w.heap.size w w1:=by rw [e_];exact bel
   have c_w1:=hX_.size
   clear e_ hX_
   refine (i_WorkshopOk d1 f1 ss1 d2 f2 ss2 st P pp m B A1 A2 A3 A4 A5 c1 c2 c3 c4 c5 w1 (hS.below (hb_.mono hB)) (Nat.le_trans hB hb_.size)).mono ?_
   rw [H1.out]
   rintro e w2 ⟨rfl,b_⟩
   replace k_a:=blk_next k_a b_
   replace k_b:=blk_next k_b b_
   replace k_r:=blk_next k_r b_
   have c_w2:=b_.size
   replace hb_:=hb_.trans (b_.mono hb_.size)
   clear b_
   obtain ⟨x0b,x1b,x2b,x3b,x4b,x5b,x6b,x7b,x8b,x9b,xlb⟩:=blk10 k_b
   go_wp2_with fail
   clear x0b x1b x2b x3b x4b x5b x6b x7b x8b x9b xlb
   refine (i_WorkshopOk d1o f1o ss1o d2o f2o ss2o sto Po ppo mo B2 E1 E2 E3 E4 E5 g1 g2 g3 g4 g5 w2 (hO.below (hb_.mono hB2)) (Nat.le_trans hB2 hb_.size)).mono ?_
   rw [H2.out]
   rintro e w3 ⟨rfl,b_⟩
   replace k_a:=blk_next k_a b_
   replace k_b:=blk_next k_b b_
   replace k_r:=blk_next k_r b_
   have c_w3:=b_.size
   replace hb_:=hb_.trans (b_.mono hb_.size)
   clear b_
   obtain ⟨x0a,x1a,x2a,x3a,x4a,x5a,x6a,x7a,x8a,x9a,xla⟩:=blk10 k_a
   go_wp2_with fail
   clear x0a x1a x2a x3a x4a x5a x6a x7a x8a x9a xla
   refine (i_workCopied d1 f1 ss1 d2 f2 ss2 st P pp m B A1 A2 A3 A4 A5 c1 c2 c3 c4 c5 w3 (hS.below (hb_.mono hB)) (Nat.le_trans hB hb_.size)).mono ?_
   rintro e w4 ⟨B1,e1,B2q,e2,B3,e3,B4,e4,B5,e5,rfl,hon,b_⟩
   replace k_a:=blk_next k_a b_
   replace k_b:=blk_next k_b b_
   replace k_r:=blk_next k_r b_
   have c_w4:=b_.size
   replace hb_:=hb_.trans (b_.mono hb_.size)
   clear b_
   have o_c:=hon
   clear hon
   have hoW:=o_c.wide (lo':=w.heap.size) (hi':=w4.heap.size) (by omega) (Nat.le_refl _)
   clear o_c
   obtain ⟨⟨x0r,x1r,x2r,x3r,x4r,x5r,x6r,x7r,x8r,x9r,xlr⟩,f0r,f1r,f2r,f3r,f4r,f5r,f6r,f7r,f8r,f9r⟩:=ba10 k_r
   go_wp2
   have qaa:=boxAt_of k_r
   refine bodyPost_ret (v:=.tuple #[.agg #[.int .i64 d1,.int .i64 f1,.slice B1 ss1.length e1,.int .i64 d2,.int .i64 f2,.slice B2q ss2.length e2,.slice B3 st.length e3,.slice B4 P.length e4,.slice B5 pp.length e5,.int .i64 m],.bool false]) (by simp [results,Tryz.results194,go_sem, *]) rfl ?_
   clear x0r x1r x2r x3r x4r x5r x6r x7r x8r x9r xlr f0r f1r f2r f3r f4r f5r f6r f7r f8r f9r
   obtain ⟨wE,heE⟩:∃ x,x=((((((((((w4.setCell ⟨w.heap.size+1+1,0,none⟩ (.int .i64 d1)).setCell ⟨w.heap.size+1+1,1,none⟩ (.int .i64 f1)).setCell ⟨w.heap.size+1+1,2,none⟩ (.slice B1 ss1.length e1)).setCell ⟨w.heap.size+1+1,3,none⟩ (.int .i64 d2)).setCell ⟨w.heap.size+1+1,4,none⟩ (.int .i64 f2)).setCell ⟨w.heap.size+1+1,5,none⟩ (.slice B2q ss2.length e2)).setCell ⟨w.heap.size+1+1,6,none⟩ (.slice B3 st.length e3)).setCell ⟨w.heap.size+1+1,7,none⟩ (.slice B4 P.length e4)).setCell ⟨w.heap.size+1+1,8,none⟩ (.slice B5 pp.length e5)).setCell ⟨w.heap.size+1+1,9,none⟩ (.int .i64 m)):=⟨_,rfl⟩
   have hBX:Boxy w4 wE:=by rw [heE];exact boxy
   have hBW:Below w.heap.size w wE:=by rw [heE];exact bel
   have hsE:wE.heap.size=w4.heap.size:=by rw [heE];simp [World.setCell]
   rw [← heE]
   clear heE
   exact ⟨B1,e1,B2q,e2,B3,e3,B4,e4,B5,e5,rfl,(hoW.boxy hBX).wide (Nat.le_refl _) (by omega),hBW⟩
theorem bytes_ext {a b:ByteArray} (h:a.data.toList=b.data.toList):a=b:=by
 obtain ⟨⟨x⟩⟩:=a
 obtain ⟨⟨y⟩⟩:=b
 simp at h
 subst h
 rfl
theorem swap_swap {c:UInt8} {s:ByteArray} {k:Int} (h:cornerB c s k=true):swapB (swapB s k) k=s:=by
 obtain ⟨p,q,a,b,h1,hk,h2,_⟩:=swap_data h
 apply bytes_ext
 show swapL (swapB s k).data.toList k.toNat=_
 rw [h2,h1,hk,Int.toNat_natCast]
 exact swapL_split p q b a _ rfl
theorem flips_flips {c:UInt8} {at_:Int} {ss:List ByteArray} {F m:Nat} (ha:allC c at_ ss F m=true):flips at_ (flips at_ ss F m) F m=ss:=by
 unfold allC at ha
 rw [List.all_eq_true] at ha
 apply List.ext_getElem (by simp [flips])
 intro i h1 h2
 simp only [flips,List.getElem_mapIdx]
 split
 ·rename_i hr
  rw [swap_swap (c:=c)]
  refine ha _ ?_
  rw [List.mem_take_iff_getElem]
  exact ⟨i - F,by rw [List.length_drop];omega,by simp [show F+(i - F)=i by omega]⟩
 ·rfl
theorem boxRes_back1 {c:UInt8} (hc:c=100∨c=102) {d f:Int} {ss sn:List ByteArray} {F L T:Int} (h:boxRes c d f ss F L T=(sn,true)):(boxRes (otherC c) d f sn F L T).1=ss:=by
 have h2:=boxRes_back hc h
 unfold boxRes at h
 split at h
 ·rename_i h1
  injection h with h3 _
  subst h3
  unfold boxRes at h2 ⊢
  split at h2
  ·rename_i h4
   rw [if_pos h4]
   exact flips_flips h1.2
  ·cases h2
 ·injection h with _ h2;cases h2
theorem exch_back1 {d f:Int} {ss sn:List ByteArray} {k:Int} {b a:ByteArray} (h:exchRes d f ss k b a=(sn,true)):(exchRes d f sn k a b).1=ss:=by
 unfold exchRes at h
 split at h
 ·rename_i h1
  simp only [Bool.and_eq_true,decide_eq_true_eq] at h1
  unfold putAt at h
  split at h
  ·rename_i h2
   simp only [Bool.and_eq_true] at h2
   injection h with h3 _
   subst h3
   have hk:=inB_iff'.1 h1.1.2
   have hkn:k.toNat<ss.length:=by omega
   have hb:ss[k.toNat]=b:=by
    have:=h1.2
    simpa [List.getD,List.getElem?_eq_getElem hkn] using this
   have hback:(ss.set k.toNat a).set k.toNat b=ss:=by
    rw [List.set_set,← hb];exact List.set_getElem_self hkn
   unfold exchRes putAt
   rw [hback,h2.2,h1.1.1,List.length_set,h1.1.2]
   simp [List.getD,hkn]
  ·injection h with _ h2;cases h2
 ·injection h with _ h2;cases h2
theorem step_back1 {d f:Int} {ss sn:List ByteArray} {K F L T I:Int} {b a:ByteArray} (h:stepRes true d f ss K F L T I b a=(sn,true)):(stepRes false d f sn K F L T I b a).1=ss:=by
 unfold stepRes at *
 split at h
 ·injection h with _ h2;cases h2
 ·rename_i hp
  rw [if_neg hp]
  split at h
  ·rename_i hk
   rw [if_pos hk]
   have:=boxRes_back1 (c:=100) (.inl rfl) (by simpa using h)
   simpa [otherC] using this
  ·rename_i hk
   rw [if_neg hk]
   split at h
   ·rename_i hk2
    rw [if_pos hk2]
    have:=boxRes_back1 (c:=102) (.inr rfl) (by simpa using h)
    simpa [otherC] using this
   ·rename_i hk2
    rw [if_neg hk2]
    exact exch_back1 (by simpa using h)
theorem runSteps_append {d f:Int} (l m:List PStep):∀ (ss:List ByteArray),runSteps d f (l++m) ss=(runSteps d f l ss).bind (runSteps d f m):=by
 induction l with
 |nil=>intro ss;rfl
 |cons x l ih =>
  intro ss
  simp only [List.cons_append,runSteps]
  split
  ·exact ih _
  ·rfl
theorem runSteps_one {d f:Int} (s:PStep) (ss:List ByteArray):runSteps d f [s] ss=if (stepRes true d f ss s.K s.F s.L s.T s.I s.b s.a).2=true then some (stepRes true d f ss s.K s.F s.L s.T s.I s.b s.a).1 else none:=rfl
theorem sameCard_iff {d f d2 f2:Int} {ss ts:List ByteArray}:sameCard d f d2 f2 ss ts=true↔d=d2∧f=f2∧ss=ts:=by
 unfold sameCard eqSS
 simp
theorem draftOk_iff {D:PDraft}:draftOk D=true↔(cardOk D.d1 D.f1 D.ss1=true∧D.st.length≤40)∧D.d1=D.d2∧D.f1=D.f2∧runSteps D.d1 D.f1 D.st D.ss1=some D.ss2:=by
 unfold draftOk
 simp only [Bool.and_eq_true,decide_eq_true_eq]
 constructor
 ·rintro ⟨h1,h2⟩
  refine ⟨h1,?_⟩
  split at h2
  ·rename_i sn hr
   obtain ⟨a,b,c⟩:=sameCard_iff.1 h2
   exact ⟨a,b,by rw [hr,c]⟩
  ·cases h2
 ·rintro ⟨h1,h2,h3,h4⟩
  refine ⟨h1,?_⟩
  rw [h4]
  exact sameCard_iff.2 ⟨h2,h3,rfl⟩
theorem doRes_draft {D:PDraft} {s:PStep} (h:(doRes D s).2=true):draftOk (doRes D s).1=true:=by
 unfold doRes at h ⊢
 split at h
 ·rename_i hc
  rw [if_pos hc]
  obtain ⟨⟨h1,h2⟩,h3,h4,h5⟩:=draftOk_iff.1 hc.1.1
  rw [draftOk_iff]
  refine ⟨⟨h1,?_⟩,h3,h4,?_⟩
  ·have:=hc.1.2
   simp
   omega
  ·show runSteps D.d1 D.f1 (D.st++[s]) D.ss1=_
   rw [runSteps_append,h5]
   show runSteps D.d1 D.f1 [s] D.ss2=_
   rw [runSteps_one,h3,h4,if_pos hc.2]
 ·cases h
theorem undoRes_draft {D:PDraft} (h:(undoRes D).2=true):draftOk (undoRes D).1=true:=by
 unfold undoRes at h ⊢
 split at h
 ·rename_i hok
  rw [if_pos hok]
  split at h
  ·rename_i s hs
   have hsp:D.st=D.st.dropLast++[s]:=by
    obtain ⟨l,hl⟩:=List.getLast?_eq_some_iff.1 hs
    rw [hl];simp
   obtain ⟨⟨h1,h2⟩,h3,h4,h5⟩:=draftOk_iff.1 hok
   rw [hsp,runSteps_append] at h5
   rw [draftOk_iff]
   refine ⟨⟨h1,by simp;omega⟩,h3,h4,?_⟩
   show runSteps D.d1 D.f1 D.st.dropLast D.ss1=some (stepRes false D.d2 D.f2 D.ss2 s.K s.F s.L s.T s.I s.b s.a).1
   cases hr:runSteps D.d1 D.f1 D.st.dropLast D.ss1 with
   |none=>rw [hr] at h5;cases h5
   |some sp =>
    rw [hr] at h5
    have h6:runSteps D.d1 D.f1 [s] sp=some D.ss2:=h5
    rw [runSteps_one] at h6
    split at h6
    ·rename_i h7
     injection h6 with h6
     have h8:=step_back1 (Prod.ext h6 h7)
     rw [← h3,← h4,h8]
    ·cases h6
  ·cases h
 ·cases h
theorem bytesLess_trans:∀ {a b c:List UInt8},Op.bytesLess a b=true→Op.bytesLess b c=true→Op.bytesLess a c=true
 |[],[],_,h,_=>by simp [Op.bytesLess] at h
 |[],_ :: _,[],_,h=>by simp [Op.bytesLess] at h
 |[],_ :: _,_ :: _,_,_=>by simp [Op.bytesLess]
 |_ :: _,[],_,h,_=>by simp [Op.bytesLess] at h
 |_ :: _,_ :: _,[],_,h=>by simp [Op.bytesLess] at h
 |a :: x,b :: y,c :: z,h1,h2=>by
  simp only [Op.bytesLess,Bool.or_eq_true,Bool.and_eq_true,decide_eq_true_eq,beq_iff_eq] at h1 h2 ⊢
  rcases h1 with h1|⟨rfl,h1⟩
  ·rcases h2 with h2|⟨rfl,h2⟩
   ·exact .inl (UInt8.lt_trans h1 h2)
   ·exact .inl h1
  ·rcases h2 with h2|⟨rfl,h2⟩
   ·exact .inl h2
   ·exact .inr ⟨rfl,bytesLess_trans h1 h2⟩
theorem bytesLess_total:∀ (a b:List UInt8),Op.bytesLess a b=false→a≠b→Op.bytesLess b a=true
 |[],[],_,h=>absurd rfl h
 |[],_ :: _,h,_=>by simp [Op.bytesLess] at h
 |_ :: _,[],_,_=>by simp [Op.bytesLess]
 |a :: x,b :: y,h,hne=>by
  simp only [Op.bytesLess,Bool.or_eq_false_iff,Bool.and_eq_false_iff,decide_eq_false_iff_not,beq_eq_false_iff_ne] at h
  simp only [Op.bytesLess,Bool.or_eq_true,Bool.and_eq_true,decide_eq_true_eq,beq_iff_eq]
  by_cases hab:b<a
  ·exact .inl hab
  ·have hba:a=b:=UInt8.le_antisymm (UInt8.not_lt.1 hab) (UInt8.not_lt.1 h.1)
   subst hba
   refine .inr ⟨rfl,bytesLess_total x y ?_ (fun e=>hne (by rw [e]))⟩
   rcases h.2 with h2|h2
   ·exact absurd rfl h2
   ·exact h2
theorem bytesLess_irrefl:∀ (a:List UInt8),Op.bytesLess a a=false
 |[]=>rfl
 |a :: x=>by simp [Op.bytesLess,UInt8.lt_irrefl,bytesLess_irrefl x]
theorem nmLe_not {a b:ByteArray}:nmLe a b=false↔Op.bytesLess b.toList a.toList=true:=by
 unfold nmLe
 simp only [Bool.or_eq_false_iff,beq_eq_false_iff_ne]
 constructor
 ·rintro ⟨h1,h2⟩;exact bytesLess_total _ _ h1 h2
 ·intro h
  refine ⟨?_,fun e=>?_⟩
  ·cases h2:Op.bytesLess a.toList b.toList
   ·rfl
   ·have:=bytesLess_trans h h2
    rw [bytesLess_irrefl] at this;cases this
  ·rw [e,bytesLess_irrefl] at h;cases h
theorem catOk_iff {P:List PItem}:catOk P=true↔P.length≤20∧(∀ x∈P,nameOk x.nm=true∧cardOk x.d x.f x.ss=true)∧P.Pairwise (fun a b=>Op.bytesLess a.nm.toList b.nm.toList=true):=by
 unfold catOk
 simp only [Bool.and_eq_true,List.all_eq_true,List.mem_range,decide_eq_true_eq]
 have key:∀ i,(hi:i<P.length)→(itGood P i=true↔(nameOk P[i].nm=true∧cardOk P[i].d P[i].f P[i].ss=true)∧(∀ j,(hj:j+1=i)→Op.bytesLess (P[j]'(by omega)).nm.toList P[i].nm.toList=true)):=by
  intro i hi
  cases i with
  |zero =>
   rw [itGood_0 (List.getElem?_eq_getElem hi)]
   simp only [Bool.and_eq_true]
   exact ⟨fun h=>⟨h,fun j hj=>by omega⟩,fun h=>h.1⟩
  |succ k =>
   rw [itGood_s (List.getElem?_eq_getElem hi) (List.getElem?_eq_getElem (by omega))]
   simp only [Bool.and_eq_true,Bool.not_eq_true',nmLe_not]
   exact ⟨fun h=>⟨h.1,fun j hj=>by have:j=k:=(by omega);subst this;exact h.2⟩,fun h=>⟨h.1,h.2 k rfl⟩⟩
 constructor
 ·rintro ⟨h1,h2⟩
  refine ⟨h2,fun x hx=>?_,?_⟩
  ·obtain ⟨i,hi,rfl⟩:=List.getElem_of_mem hx
   exact ((key i hi).1 (h1 i hi)).1
  ·rw [List.pairwise_iff_getElem]
   have hstep:∀ i,(hi:i+1<P.length)→Op.bytesLess P[i].nm.toList P[i+1].nm.toList=true:=fun i hi=>((key (i+1) hi).1 (h1 (i+1) hi)).2 i rfl
   intro i j hi hj hij
   induction j with
   |zero=>omega
   |succ j ih =>
    rcases Nat.lt_or_ge i j with h3|h3
    ·exact bytesLess_trans (ih (by omega) h3) (hstep j hj)
    ·have:i=j:=by omega
     subst this
     exact hstep i hj
 ·rintro ⟨h1,h2,h3⟩
  refine ⟨fun i hi=>(key i hi).2 ⟨h2 _ (List.getElem_mem hi),fun j hj=>?_⟩,h1⟩
  rw [List.pairwise_iff_getElem] at h3
  exact h3 j i (by omega) hi (by omega)
theorem sublist_catOk {P Q:List PItem} (h:catOk P=true) (hs:List.Sublist Q P):catOk Q=true:=by
 rw [catOk_iff] at *
 exact ⟨Nat.le_trans hs.length_le h.1,fun x hx=>h.2.1 x (hs.subset hx),h.2.2.sublist hs⟩
theorem dropped_cat {P:List PItem} {nm:ByteArray} (h:(dropped P nm).2=true):catOk (dropped P nm).1=true:=by
 cases hc:catOk P with
 |false=>rw [dropped_no1 hc] at h;cases h
 |true =>
  cases hk:idxNm P nm with
  |none=>rw [dropped_no2 hk] at h;cases h
  |some k =>
   rw [dropped_yes hc hk]
   exact sublist_catOk hc (sub_erase P k)
theorem added_cat {P:List PItem} {x:PItem} (h:(added P x).2=true):catOk (added P x).1=true:=by
 obtain ⟨j,hj⟩:∃ j,posOf P x.nm=j:=⟨_,rfl⟩
 cases hc:catOk P with
 |false=>rw [added_no1 hc] at h;cases h
 |true =>
  cases hi:catOk (insP P x j) with
  |false=>rw [added_no2 hj hi] at h;cases h
  |true=>rw [added_yes hj hc hi];exact hi
theorem uwb_cast {W:PWork} {b:Bool} {q:PWork×Bool} {w w':World} {e:Ending} (h:q=(W,b)) (hu:UWorkB W.D.d1 W.D.f1 W.D.ss1 W.D.d2 W.D.f2 W.D.ss2 W.D.st W.P W.pp W.m b w e w'):UWorkB q.1.D.d1 q.1.D.f1 q.1.D.ss1 q.1.D.d2 q.1.D.f2 q.1.D.ss2 q.1.D.st q.1.P q.1.pp q.1.m q.2 w e w':=by subst h;exact hu
def shapeRes (W:PWork) (s:PStep):PWork×Bool:=if workOk W=true∧1≤W.m∧(doRes W.D s).2=true then (⟨(doRes W.D s).1,W.P,W.pp,W.m - 1⟩,true) else (W,false)
def unshapeRes (W:PWork):PWork×Bool:=if workOk W=true∧(undoRes W.D).2=true then (⟨(undoRes W.D).1,W.P,W.pp,W.m⟩,true) else (W,false)
def forgetRes (W:PWork) (nm:ByteArray):PWork×Bool:=if workOk W=true∧(dropped W.P nm).2=true then (⟨W.D,(dropped W.P nm).1,W.pp,W.m⟩,true) else (W,false)
def keepRes (W:PWork) (nm:ByteArray):PWork×Bool:=if workOk W=true∧(added W.P ⟨nm,W.D.d2,W.D.f2,W.D.ss2⟩).2=true then (⟨W.D,(added W.P ⟨nm,W.D.d2,W.D.f2,W.D.ss2⟩).1,W.pp,W.m⟩,true) else (W,false)
theorem workOk_D {W:PWork} {D:PDraft} (h:workOk W=true) (hd:draftOk D=true):workOk ⟨D,W.P,W.pp,W.m⟩=true:=by rw [workOk_iff] at *;exact ⟨hd,h.2⟩
theorem workOk_P {W:PWork} {P:List PItem} (h:workOk W=true) (hd:catOk P=true):workOk ⟨W.D,P,W.pp,W.m⟩=true:=by rw [workOk_iff] at *;exact ⟨h.1,hd,h.2.2⟩
theorem workOk_m {W:PWork} (h:workOk W=true):0≤W.m∧W.m≤1000000:=(workOk_iff.1 h).2.2.2.2
theorem shape_yes {W:PWork} {s:PStep} {mo:Int} (hm:IntKind.i64.wrap (W.m - 1)=mo) (h:((doRes W.D s).2&&(workOk W&&workOk ⟨(doRes W.D s).1,W.P,W.pp,mo⟩))=true):(doRes W.D s).2=true∧workOk W=true∧workOk ⟨(doRes W.D s).1,W.P,W.pp,mo⟩=true∧shapeRes W s=(⟨(doRes W.D s).1,W.P,W.pp,mo⟩,true):=by
 simp only [Bool.and_eq_true] at h
 have h1:=workOk_m h.2.1
 have h2:=workOk_m h.2.2
 rw [IntKind.wrap_i64] at hm
 have h3:mo=W.m - 1:=by omega
 refine ⟨h.1,h.2.1,h.2.2,?_⟩
 unfold shapeRes
 simp only at h2
 rw [if_pos ⟨h.2.1,by omega,h.1⟩,h3]
theorem shape_no {W:PWork} {s:PStep} {mo:Int} (hm:IntKind.i64.wrap (W.m - 1)=mo) (h:((doRes W.D s).2&&(workOk W&&workOk ⟨(doRes W.D s).1,W.P,W.pp,mo⟩))=false):shapeRes W s=(W,false):=by
 unfold shapeRes
 split
 ·rename_i hc
  obtain ⟨h1,h2,h3⟩:=hc
  have hb:=workOk_m h1
  rw [IntKind.wrap_i64] at hm
  have h4:mo=W.m - 1:=by omega
  have h5:workOk ⟨(doRes W.D s).1,W.P,W.pp,mo⟩=true:=by
   have:=workOk_D h1 (doRes_draft h3)
   rw [workOk_iff] at this ⊢
   exact ⟨this.1,this.2.1,this.2.2.1,this.2.2.2.1,by simp only;omega,by simp only;omega⟩
  rw [h3,h1,h5] at h
  cases h
 ·rfl
theorem unshape_yes {W:PWork} (h:((undoRes W.D).2&&(workOk W&&workOk ⟨(undoRes W.D).1,W.P,W.pp,W.m⟩))=true):(undoRes W.D).2=true∧workOk W=true∧workOk ⟨(undoRes W.D).1,W.P,W.pp,W.m⟩=true∧unshapeRes W=(⟨(undoRes W.D).1,W.P,W.pp,W.m⟩,true):=by
 simp only [Bool.and_eq_true] at h
 refine ⟨h.1,h.2.1,h.2.2,?_⟩
 unfold unshapeRes
 rw [if_pos ⟨h.2.1,h.1⟩]
theorem unshape_no {W:PWork} (h:((undoRes W.D).2&&(workOk W&&workOk ⟨(undoRes W.D).1,W.P,W.pp,W.m⟩))=false):unshapeRes W=(W,false):=by
 unfold unshapeRes
 split
 ·rename_i hc
  rw [hc.1,hc.2,workOk_D hc.1 (undoRes_draft hc.2)] at h
  cases h
 ·rfl
theorem forget_yes {W:PWork} {nm:ByteArray} (h:((dropped W.P nm).2&&(workOk W&&workOk ⟨W.D,(dropped W.P nm).1,W.pp,W.m⟩))=true):(dropped W.P nm).2=true∧workOk W=true∧workOk ⟨W.D,(dropped W.P nm).1,W.pp,W.m⟩=true∧forgetRes W nm=(⟨W.D,(dropped W.P nm).1,W.pp,W.m⟩,true):=by
 simp only [Bool.and_eq_true] at h
 refine ⟨h.1,h.2.1,h.2.2,?_⟩
 unfold forgetRes
 rw [if_pos ⟨h.2.1,h.1⟩]
theorem forget_no {W:PWork} {nm:ByteArray} (h:((dropped W.P nm).2&&(workOk W&&workOk ⟨W.D,(dropped W.P nm).1,W.pp,W.m⟩))=false):forgetRes W nm=(W,false):=by
 unfold forgetRes
 split
 ·rename_i hc
  rw [hc.1,hc.2,workOk_P hc.1 (dropped_cat hc.2)] at h
  cases h
 ·rfl
theorem keep_yes {W:PWork} {nm:ByteArray} (h:((added W.P ⟨nm,W.D.d2,W.D.f2,W.D.ss2⟩).2&&(workOk W&&workOk ⟨W.D,(added W.P ⟨nm,W.D.d2,W.D.f2,W.D.ss2⟩).1,W.pp,W.m⟩))=true):(added W.P ⟨nm,W.D.d2,W.D.f2,W.D.ss2⟩).2=true∧workOk W=true∧workOk ⟨W.D,(added W.P ⟨nm,W.D.d2,W.D.f2,W.D.ss2⟩).1,W.pp,W.m⟩=true∧keepRes W nm=(⟨W.D,(added W.P ⟨nm,W.D.d2,W.D.f2,W.D.ss2⟩).1,W.pp,W.m⟩,true):=by
 simp only [Bool.and_eq_true] at h
 refine ⟨h.1,h.2.1,h.2.2,?_⟩
 unfold keepRes
 rw [if_pos ⟨h.2.1,h.1⟩]
theorem keep_no {W:PWork} {nm:ByteArray} (h:((added W.P ⟨nm,W.D.d2,W.D.f2,W.D.ss2⟩).2&&(workOk W&&workOk ⟨W.D,(added W.P ⟨nm,W.D.d2,W.D.f2,W.D.ss2⟩).1,W.pp,W.m⟩))=false):keepRes W nm=(W,false):=by
 unfold keepRes
 split
 ·rename_i hc
  rw [hc.1,hc.2,workOk_P hc.1 (added_cat hc.2)] at h
  cases h
 ·rfl
theorem keep_s1 {W:PWork} {nm:ByteArray} (h:workOk W=false):keepRes W nm=(W,false):=by unfold keepRes;rw [h];simp
theorem keep_s3 {W:PWork} {nm:ByteArray} (h:(added W.P ⟨nm,W.D.d2,W.D.f2,W.D.ss2⟩).2=false):keepRes W nm=(W,false):=by unfold keepRes;rw [h];simp
theorem keep_s4 {W:PWork} {nm:ByteArray} (h1:workOk W=true) (h3:(added W.P ⟨nm,W.D.d2,W.D.f2,W.D.ss2⟩).2=true):keepRes W nm=(⟨W.D,(added W.P ⟨nm,W.D.d2,W.D.f2,W.D.ss2⟩).1,W.pp,W.m⟩,true):=by unfold keepRes;rw [if_pos ⟨h1,h3⟩]
theorem shapeRes_ok (W:PWork) (s:PStep) (h:OkWork W.D W.P W.pp 1048576) (hs:s.b.size≤16777216∧s.a.size≤16777216):OkWork (shapeRes W s).1.D (shapeRes W s).1.P (shapeRes W s).1.pp 1048576:=by
 unfold shapeRes
 split
 ·exact ⟨doRes_ok _ _ h.d hs,h.i,h.p⟩
 ·exact h
theorem unshapeRes_ok (W:PWork) (h:OkWork W.D W.P W.pp 1048576):OkWork (unshapeRes W).1.D (unshapeRes W).1.P (unshapeRes W).1.pp 1048576:=by
 unfold unshapeRes
 split
 ·exact ⟨undoRes_ok _ h.d,h.i,h.p⟩
 ·exact h
theorem forgetRes_ok (W:PWork) (nm:ByteArray) (h:OkWork W.D W.P W.pp 1048576):OkWork (forgetRes W nm).1.D (forgetRes W nm).1.P (forgetRes W nm).1.pp 1048576:=by
 unfold forgetRes
 split
 ·exact ⟨h.d,dropped_ok _ _ _ h.i,h.p⟩
 ·exact h
theorem keepRes_ok (W:PWork) (nm:ByteArray) (h:OkWork W.D W.P W.pp 1048576) (hn:nm.size≤16777216):OkWork (keepRes W nm).1.D (keepRes W nm).1.P (keepRes W nm).1.pp 1048576:=by
 unfold keepRes
 split
 ·exact ⟨h.d,added_ok _ _ _ h.i ⟨h.d.l2,h.d.z2,hn⟩ (by omega),h.p⟩
 ·exact h
def makeRes (W:PWork) (nm:ByteArray) (k n:Int):PWork×Bool :=
 if inB n 1 1000=true∧workOk W=true∧(named W.P nm).2.2=true∧(useRes W.pp k n).2=true∧W.m+5 * n≤1000000 then (⟨W.D,W.P,(useRes W.pp k n).1,W.m+5 * n⟩,true) else (W,false)
theorem make_n1 {W:PWork} {nm:ByteArray} {k n:Int} (h:inB n 1 1000=false):makeRes W nm k n=(W,false):=by unfold makeRes;rw [h];simp
theorem make_n2 {W:PWork} {nm:ByteArray} {k n:Int} (h:(named W.P nm).2.2=false):makeRes W nm k n=(W,false):=by unfold makeRes;rw [h];simp
theorem make_y {W:PWork} {nm:ByteArray} {k n:Int} (h1:inB n 1 1000=true) (h2:workOk W=true) (h3:(named W.P nm).2.2=true) (h4:(useRes W.pp k n).2=true) (h5:¬1000000<W.m+5 * n):makeRes W nm k n=(⟨W.D,W.P,(useRes W.pp k n).1,W.m+5 * n⟩,true):=by unfold makeRes;rw [if_pos ⟨h1,h2,h3,h4,by omega⟩]
theorem make_yes {W:PWork} {nm:ByteArray} {k n mo:Int} (hi:inB n 1 1000=true) (hk:(named W.P nm).2.2=true) (hm:IntKind.i64.wrap (W.m+5 * n)=mo) (h:((useRes W.pp k n).2&&(workOk W&&workOk ⟨W.D,W.P,(useRes W.pp k n).1,mo⟩))=true):(useRes W.pp k n).2=true∧workOk W=true∧workOk ⟨W.D,W.P,(useRes W.pp k n).1,mo⟩=true∧makeRes W nm k n=(⟨W.D,W.P,(useRes W.pp k n).1,mo⟩,true):=by
 simp only [Bool.and_eq_true] at h
 have h1:=workOk_m h.2.1
 have h2:=workOk_m h.2.2
 have h0:=inB_iff'.1 hi
 rw [IntKind.wrap_i64] at hm
 have h3:mo=W.m+5 * n:=by omega
 simp only at h2
 exact ⟨h.1,h.2.1,h.2.2,by rw [make_y hi h.2.1 hk h.1 (by omega),h3]⟩
theorem workOk_pp {W:PWork} {pp:List PPaper} {mo:Int} (h:workOk W=true) (h1:papOk pp=true) (h2:pp.length≤20) (h3:0≤mo) (h4:mo≤1000000):workOk ⟨W.D,W.P,pp,mo⟩=true:=by rw [workOk_iff] at *;exact ⟨h.1,h.2.1,h2,h1,h3,h4⟩
theorem make_no {W:PWork} {nm:ByteArray} {k n mo:Int} (hm:IntKind.i64.wrap (W.m+5 * n)=mo) (h:((useRes W.pp k n).2&&(workOk W&&workOk ⟨W.D,W.P,(useRes W.pp k n).1,mo⟩))=false):makeRes W nm k n=(W,false):=by
 unfold makeRes
 split
 ·rename_i hc
  obtain ⟨h1,h2,h3,h4,h5⟩:=hc
  have hb:=workOk_m h2
  have h0:=inB_iff'.1 h1
  rw [IntKind.wrap_i64] at hm
  have h6:mo=W.m+5 * n:=by omega
  obtain ⟨q1,q2⟩:=useRes_pap h4
  rw [h4,h2,workOk_pp h2 q1 (by rw [useRes_len];exact q2) (by omega) (by omega)] at h
  cases h
 ·rfl
theorem makeRes_ok (W:PWork) (nm:ByteArray) (k n:Int) (h:OkWork W.D W.P W.pp 1048576):OkWork (makeRes W nm k n).1.D (makeRes W nm k n).1.P (makeRes W nm k n).1.pp 1048576:=by
 unfold makeRes
 split
 ·exact ⟨h.d,h.i,by simp only [useRes_len];exact h.p⟩
 ·exact h
def buyRes (W:PWork) (k n:Int):PWork×Bool :=
 if inB n 1 1000=true∧workOk W=true∧workOk ⟨W.D,W.P,W.pp++[⟨k,100,n⟩],W.m - 2 * n⟩=true then (⟨W.D,W.P,W.pp++[⟨k,100,n⟩],W.m - 2 * n⟩,true) else (W,false)
theorem buy_n1 {W:PWork} {k n:Int} (h:inB n 1 1000=false):buyRes W k n=(W,false):=by unfold buyRes;rw [h];simp
theorem buy_n2 {W:PWork} {k n:Int} (h:workOk W=false):buyRes W k n=(W,false):=by unfold buyRes;rw [h];simp
theorem buy_n3 {W:PWork} {k n:Int} (h:workOk ⟨W.D,W.P,W.pp++[⟨k,100,n⟩],W.m - 2 * n⟩=false):buyRes W k n=(W,false):=by unfold buyRes;rw [h];simp
theorem buy_y {W:PWork} {k n:Int} (h1:inB n 1 1000=true) (h2:workOk W=true) (h3:workOk ⟨W.D,W.P,W.pp++[⟨k,100,n⟩],W.m - 2 * n⟩=true):buyRes W k n=(⟨W.D,W.P,W.pp++[⟨k,100,n⟩],W.m - 2 * n⟩,true):=by unfold buyRes;rw [if_pos ⟨h1,h2,h3⟩]
theorem buy_yes {W:PWork} {k n mo:Int} (hi:inB n 1 1000=true) (hm:IntKind.i64.wrap (W.m - 2 * n)=mo) (h:(true&&(workOk W&&workOk ⟨W.D,W.P,W.pp++[⟨k,100,n⟩],mo⟩))=true):workOk W=true∧workOk ⟨W.D,W.P,W.pp++[⟨k,100,n⟩],mo⟩=true∧buyRes W k n=(⟨W.D,W.P,W.pp++[⟨k,100,n⟩],mo⟩,true):=by
 simp only [Bool.and_eq_true] at h
 have h1:=workOk_m h.2.1
 have h0:=inB_iff'.1 hi
 rw [IntKind.wrap_i64] at hm
 have h3:mo=W.m - 2 * n:=by omega
 subst h3
 exact ⟨h.2.1,h.2.2,buy_y hi h.2.1 h.2.2⟩
theorem buy_no {W:PWork} {k n mo:Int} (hi:inB n 1 1000=true) (hm:IntKind.i64.wrap (W.m - 2 * n)=mo) (h:(true&&(workOk W&&workOk ⟨W.D,W.P,W.pp++[⟨k,100,n⟩],mo⟩))=false):buyRes W k n=(W,false):=by
 cases h2:workOk W with
 |false=>exact buy_n2 h2
 |true =>
  have h1:=workOk_m h2
  have h0:=inB_iff'.1 hi
  rw [IntKind.wrap_i64] at hm
  have h3:mo=W.m - 2 * n:=by omega
  subst h3
  rw [h2] at h
  exact buy_n3 (by simpa using h)
theorem buyRes_ok (W:PWork) (k n:Int) (h:OkWork W.D W.P W.pp 1048576):OkWork (buyRes W k n).1.D (buyRes W k n).1.P (buyRes W k n).1.pp 1048576:=by
 unfold buyRes
 split
 ·rename_i hc
  have:=(workOk_iff.1 hc.2.2).2.2.1
  exact ⟨h.d,h.i,by simp only at this ⊢;omega⟩
 ·exact h
theorem reads_blk {w:World} {g n size:Nat} {cs:Array Value} {t:TypeId} (h:w.heap[g]?=some (.cells cs t (0,0))) (hs:cs.size=n * size):Reads w w.heap.size size (some ⟨g,0,none⟩) n cs.toList :=
 ⟨by simp [hs],fun _=>⟨_,rfl,blk_lt h,fun j u hu=>by
  have h1:=(blk_cells h j).1
  have h2:(Addr.add ⟨g,0,none⟩ j)=⟨g,j,none⟩:=by unfold Addr.add;split <;> simp_all
  rw [h2,h1]
  simpa using hu⟩⟩
theorem OwnP.appended {w w':World} {lo hi n:Nat} {A:Option Addr} {c:Nat} {l m:List PPaper} {v':Value} (ho:OwnP w lo hi A c l) {b:Nat} (h2:w'.ownsRow b 105 3 v' n (m.flatMap paperCells)) (hn:n=m.length) (hpos:0<n) (hat:v'.ownBlock=(Value.slice A l.length c).ownBlock∨v'.ownBlock=some w.heap.size) :
  ∃ A' c' k,v'=.slice A' m.length c'∧OwnP w' k (k+1) A' c' m∧(lo≤k∧k<hi∨k=w.heap.size)∧k<w'.heap.size:=by
 subst hn
 obtain ⟨A',c',rfl⟩:=own_slice h2
 obtain ⟨g,cap,hv,hbg,hglt⟩:=h2.form hpos
 have hg:(Value.slice A' m.length c').ownBlock=some g:=by injection hv with e1;subst e1;rfl
 refine ⟨A',c',g,rfl,OwnP.pin h2 hg,?_,hglt⟩
 rcases hat with h|h
 ·left
  rw [hg] at h
  exact ⟨(ho.row.lt g h.symm).1,ho.top g h.symm⟩
 ·right
  rw [hg] at h
  injection h
end Go.Proofs.YtlimlolciekimaaGreatDoor
