/- FnScripts: the walk. -/
import Derived.Test.YtlimlolciekimaaGreatDoorRows
import Derived.Test.YtlimlolciekimaaGreatDoorQHav
import Derived.Test.YtlimlolciekimaaGreatDoorQHar
import Derived.Test.YtlimlolciekimaaGreatDoorQHas
import Derived.Test.YtlimlolciekimaaGreatDoorQHap
import Derived.Test.YtlimlolciekimaaGreatDoorQHu
namespace Go.Proofs.YtlimlolciekimaaGreatDoor.fnScripts
set_option maxHeartbeats 1600000
open Go.ChangeShapes Go.WideShapes Go.ChangeAt Go.RowKit
set_option linter.unusedVariables false
set_option linter.unusedSimpArgs false
set_option maxRecDepth 10000
theorem acts_text {l:List PAct} (hok:∀ x∈l,actOk x.k x.a x.b=true) (h13:l.length≤13):scrRes l=(scrT l l.length,true):=by
 refine scrRes_ok (by omega) fun i hi _=>?_
 have h:=hok _ (List.getElem_mem hi)
 obtain ⟨_,X,Y,h1,h2,_,_⟩:=actOk_parts h
 unfold actR
 rw [h1,h2] at h ⊢
 rw [fmtRes_yes h]
theorem nums_size {xs:List Int} (h:∀ x∈xs,0≤x∧x≤1280):∀ s∈numsT xs,s.size≤1000:=by
 intro s hs
 unfold numsT at hs
 obtain ⟨x,hx,rfl⟩:=List.mem_map.1 hs
 have h1:=h x hx
 have:=numT10 (n:=x.toNat) (by omega)
 omega
set_option maxHeartbeats 12800000 in
theorem walkScripts (A:Option Addr) (c:Nat) (bs:List Int) (w:World) (hE:Errs w) (hL:LenV w) (hK:Code w w.heap.size A bs) :
  Calls Tryz.prog 7 #[.slice A bs.length c] w fun e w'=>e=.returned (.bool true)∧Below w.heap.size w w':=by
 have hnb:=hK.nb
 have hd:decide (1048576<bs.length)=false:=by simp;omega
 obtain ⟨j0,hj0,hy0,hy1,hy2⟩:=info_parts info_str
 go_enter Tryz.func7,Tryz.ntmps7
 go_wp2_with (go_at_call 9;refine (l_big _ _ _ _ (by omega)).mono ?_;rw [hd];rintro e w' ⟨rfl,rfl⟩)
 refine (s_DrawActsV w.heap.size A c bs w hK (Nat.le_refl _)).mono ?_
 rintro e w1 ⟨d1,f1,ss1,d2,f2,ss2,st,P,pp,m,A1,c1,A2,c2,A3,c3,A4,c4,A5,c5,la,A',c',HW,⟨hla,hok⟩,rfl,o_W,o_A,G_⟩
 have hst:=acts_text hok hla
 have hso:=scrRun_yes (scrT_out hok hla)
 have hsz:=scrT_le la la.length
 have hsr:=sample_run (la:=la) (by omega) hok
 have hlr:(runT la).length=la.length+5:=by
  show (numsT (runRes sampleW la).2++shopT (runRes sampleW la).1).length=_
  rw [List.length_append]
  unfold numsT
  rw [List.length_map,hsr.2.1]
  rfl
 have hrz:∀ s∈runT la,s.size≤1000:=by
  intro s hs
  rcases List.mem_append.1 hs with h|h
  ·exact nums_size hsr.2.2.1 s h
  ·exact shopT_size hsr.1 s h
 have hzT:(scrT la la.length).size≤16777216:=by omega
 obtain ⟨M,hlM⟩:∃ M,la.length=M:=⟨_,rfl⟩
 have hM13:M≤13:=by omega
 have s_w1:=G_.size
 have hown0:=o_A.row
 rw [hlM] at hst hso hzT hlr hown0 ⊢
 obtain ⟨TX,hTX⟩:∃ x,scrT la M=x:=⟨_,rfl⟩
 rw [hTX] at hst hso hzT
 have kT:=fun (W:World) (h:Acts W W.heap.size A' M la) (hT:Tab W)=>i_ScriptText W.heap.size A' M c' la W h (Nat.le_refl _) hT
 simp only [hst] at kT
 have KT:=hide kT
 have HSO:=Lib.hid hso
 have HLR:=Lib.hid hlr
 have HRZ:=hide hrz
 clear kT hst hso hlr hrz HW o_W o_A hTX hla
 have G_2:=G_.alloc s_w1 (.cells #[.int .i64 d1,.int .i64 f1,.slice A1 ss1.length c1,.int .i64 d2,.int .i64 f2,.slice A2 ss2.length c2,.slice A3 st.length c3,.slice A4 P.length c4,.slice A5 pp.length c5,.int .i64 m] 33)
 have hown2:=hown0.alloc (.cells #[.int .i64 d1,.int .i64 f1,.slice A1 ss1.length c1,.int .i64 d2,.int .i64 f2,.slice A2 ss2.length c2,.slice A3 st.length c3,.slice A4 P.length c4,.slice A5 pp.length c5,.int .i64 m] 33)
 go_wp2_with fail
 generalize (w1.alloc (.cells #[.int .i64 d1,.int .i64 f1,.slice A1 ss1.length c1,.int .i64 d2,.int .i64 f2,.slice A2 ss2.length c2,.slice A3 st.length c3,.slice A4 P.length c4,.slice A5 pp.length c5,.int .i64 m] 33))=w2 at *
 clear hown0 G_
 refine (KT.out w2 ⟨Reads.of_own hown2,by omega⟩ (hE.tab.below G_2)).mono ?_
 clear KT
 rintro e w3 ⟨rfl,hb3⟩
 have G_3:=G_2.trans (hb3.mono G_2.size)
 have hown3:=own_below hown2 hb3
 clear hown2 hb3 G_2
 go_wp2_with fail
 refine (i_RunScript TX w3 (hE.below G_3) (hL.below G_3) hzT).mono ?_
 rw [HSO.out]
 rintro e wo ⟨AO,cO,rfl,oO,hbr⟩
 have hb:=G_3.trans (hbr.mono G_3.size)
 have hown:=own_below hown3 hbr
 have hzr:=hb.size
 rw [HLR.out]
 have hRow:=oO.row
 rw [HLR.out] at hRow
 have hSO:Strs wo wo.heap.size AO (M+5) (runT la):=strs_of_own hRow (by omega) (fun s hs=>Nat.le_trans (HRZ.out s hs) (by decide))
 have hrT:runT la=numsT (runRes sampleW la).2++shopT (runRes sampleW la).1:=rfl
 have HRZ2:=HRZ.out
 rw [hrT] at hSO HRZ2
 clear oO hRow hown3 G_3 hbr HSO HLR HRZ hrT hzT hsz
 have kSW:∀ W:World,Calls Tryz.prog 34 #[] W (UWork sampleW.D.d1 sampleW.D.f1 sampleW.D.ss1 sampleW.D.d2 sampleW.D.f2 sampleW.D.ss2 sampleW.D.st sampleW.P sampleW.pp sampleW.m W):=fun W=>i_SampleWorkshop W
 have hz3:=sampleW_z
 generalize sampleW=SW at hSO HRZ2 hsr kSW hz3
 obtain ⟨⟨a1,b1',sS1,a2,b2',sS2,sT⟩,sP,spp,sm⟩:=SW
 simp only at hsr kSW hz3
 have kRA:=fun (W:World) (lo hi:Nat) (A1 A2 A3 A4 A5:Option Addr) (c1 c2 c3 c4 c5:Nat) (h1:OwnW W lo hi A1 c1 A2 c2 A3 c3 A4 c4 A5 c5 ⟨a1,b1',sS1,a2,b2',sS2,sT⟩ sP spp) (h2:Acts W W.heap.size A' la.length la)=>i_RunActs a1 b1' sS1 a2 b2' sS2 sT sP spp sm la W.heap.size A1 A2 A3 A4 A5 c1 c2 c3 c4 c5 A' c' W (h1.rd (hz3.more (by omega))) h2 (Nat.le_refl _) hz3
 generalize runRes _ la=R at hsr kRA hSO HRZ2
 obtain ⟨⟨⟨e1,g1,ts1,e2,g2,ts2,tt⟩,Q,qq,mm⟩,xs⟩:=R
 simp only at hsr kRA hSO HRZ2
 obtain ⟨hwk,hxl,hnum,hzR⟩:=hsr
 rw [hlM] at hxl
 simp only [hlM] at kRA
 have HXL:=Lib.hid hxl
 have HRZ3:=hide HRZ2
 have HNUM:=hide hnum
 have KSW:=hide kSW
 have KRA:=hide kRA
 have HLA:=Lib.hid hlM
 clear kSW kRA hxl HRZ2 hnum hlM hok hz3
 go_wp2_with fail
 refine (KSW.out wo).mono ?_
 rintro e w2 ⟨S1,r1,S2,r2,S3,r3,S4,r4,S5,r5,rfl,oS,hb2⟩
 have hown2:=own_below hown hb2
 have BB2:=hb.trans (hb2.mono hzr)
 have hAc:Acts w2 w2.heap.size A' M la:=⟨Reads.of_own hown2,by omega⟩
 clear hown hown2 KSW
 go_wp2_with fail
 refine (KRA.out w2 _ _ S1 S2 S3 S4 S5 r1 r2 r3 r4 r5 oS hAc).mono ?_
 rintro e w3 ⟨B1,b1,B2,b2,B3,b3,B4,b4,B5,b5,B6,b6,rfl,oX,hb3⟩
 obtain ⟨l1,h1,l2,h2,hr,ha,oW,oN⟩:=oX.all
 have B3':=BB2.trans (hb3.mono BB2.size)
 have hrN:=oN.rd
 rw [HXL.out] at hrN ⊢
 have brw3:=hb2.trans (hb3.mono hb2.size)
 clear hAc oS KRA oX oN hb2 hb3 hr ha
 go_upto_region 7 with fail
 have kW:=blk_new w3 (.cells #[.int .i64 e1,.int .i64 g1,.slice B1 ts1.length b1,.int .i64 e2,.int .i64 g2,.slice B2 ts2.length b2,.slice B3 tt.length b3,.slice B4 Q.length b4,.slice B5 qq.length b5,.int .i64 mm] 33)
 have oW4:=oW.alloc (.cells #[.int .i64 e1,.int .i64 g1,.slice B1 ts1.length b1,.int .i64 e2,.int .i64 g2,.slice B2 ts2.length b2,.slice B3 tt.length b3,.slice B4 Q.length b4,.slice B5 qq.length b5,.int .i64 mm] 33)
 have B4':=B3'.alloc B3'.size (.cells #[.int .i64 e1,.int .i64 g1,.slice B1 ts1.length b1,.int .i64 e2,.int .i64 g2,.slice B2 ts2.length b2,.slice B3 tt.length b3,.slice B4 Q.length b4,.slice B5 qq.length b5,.int .i64 mm] 33)
 have b34:Below w3.heap.size w3 (w3.alloc (.cells #[.int .i64 e1,.int .i64 g1,.slice B1 ts1.length b1,.int .i64 e2,.int .i64 g2,.slice B2 ts2.length b2,.slice B3 tt.length b3,.slice B4 Q.length b4,.slice B5 qq.length b5,.int .i64 mm] 33)):=(Below.refl _ _).alloc (Nat.le_refl _) _
 have hrN4:=(hrN.below b34).more b34.size
 have brw:=brw3.trans (b34.mono brw3.size)
 generalize w3.alloc (.cells #[.int .i64 e1,.int .i64 g1,.slice B1 ts1.length b1,.int .i64 e2,.int .i64 g2,.slice B2 ts2.length b2,.slice B3 tt.length b3,.slice B4 Q.length b4,.slice B5 qq.length b5,.int .i64 mm] 33)=w4 at *
 obtain ⟨bW,hbW⟩:∃ q,q=w3.heap.size:=⟨_,rfl⟩
 rw [← hbW] at kW
 try rw [← hbW]
 clear hbW oW BB2 B3' b34 hrN hb
 have hOut:(w4.alloc (.cells #[] 9)).ownsRow w4.heap.size 9 1 (.slice (some ⟨w4.heap.size,0,none⟩) 0 0) 0 []:=World.ownsRow_made w4 #[] 0 (Nat.le_refl _) (by unfold maxLen;omega) rfl
 have b45:Below w4.heap.size w4 (w4.alloc (.cells #[] 9)):=(Below.refl _ _).alloc (Nat.le_refl _) _
 have hz4:=B4'.size
 go_wp2
 go_loopw [11,12] (fun o i wr=>∃ (k:Nat) (Ao:Option Addr) (co:Nat),k≤M∧i=.int .i64 (k:Int)∧o=.slice Ao k co∧wr.ownsRow w4.heap.size 9 1 (.slice Ao k co) k ((numsT (xs.take k)).map Value.string)∧Below w4.heap.size w4 wr) (fun _ i _=>M - (intOf i).toNat)
 case atStart=>exact ⟨0,_,_,Nat.zero_le _,rfl,rfl,(by unfold numsT;simpa using hOut),b45⟩
 case round =>
  clear hOut b45
  obtain ⟨k,Ao,co,hkM,rfl,rfl,hro,hbq⟩:=hrel
  have hzq:=hbq.size
  by_cases hlt2:k<M
  ·obtain ⟨hk1,ad,rfl,hab,hcx⟩:=ints_at (hrN4.below hbq) hlt2
   have hnx:=HNUM.out _ (List.getElem_mem hk1)
   obtain ⟨z,hz9⟩:∃ z:Nat,xs[k]=(z:Int):=⟨xs[k].toNat,by omega⟩
   have HSN:=Lib.hid (nums_snoc xs hk1 z hz9)
   rw [hz9] at hcx hnx
   have HONE:=hide (one_strV [numT z])
   clear hz9
   go_wp2_with fail
   refine (i_FormatInt z wr (by omega) ((hE.tab.below B4').below hbq)).mono ?_
   rintro e w6 ⟨rfl,hb6⟩
   have hro6:=own_below hro hb6
   have B46:=hbq.trans (hb6.mono hzq)
   have hz6:=B46.size
   clear hro hb6 hbq
   go_wp2_with (at_builtin;refine wpList_append_N _ rfl (.tmp 43) (.tmp 49) _ rfl w4.heap.size 9 j0 _ 1 16 Tryz.underlying24 hj0 hy0 hy1 hy2 rfl (by omega) (.slice Ao k co) k _ rfl (hro6.alloc _) (_+1) (some ⟨_,0,none⟩) 1 1 [Value.string (numT z)] rfl (reads_one _ _) (unhide HONE) ?_ ?_ ?_ (k+1) _ rfl HSN.out ?_;(unfold maxLen;omega);omega;(simp;omega);intro A7 c7 w7 ho7 hb7)
   go_roundw
   case rel=>exact ⟨k+1,A7,c7,by omega,by go_num,rfl,ho7,(B46.alloc hz6 _).trans hb7⟩
   case measure=>simp [intOf];omega
  ·have hkM2:k=M:=by omega
   subst hkM2
   have hxt:xs.take k=xs:=List.take_of_length_le (by rw [HXL.out];exact Nat.le_refl _)
   rw [hxt] at hro
   clear hxt hrN4
   have kq:=blk_below kW hbq (blk_lt kW)
   have oWq:=oW4.below hbq
   have Bq:=B4'.trans (hbq.mono hz4)
   have hsl:(shopT ⟨⟨e1,g1,ts1,e2,g2,ts2,tt⟩,Q,qq,mm⟩).length=5:=rfl
   have kF:=fun (W:World) (h:OwnW W l1 h1 B1 b1 B2 b2 B3 b3 B4 b4 B5 b5 ⟨e1,g1,ts1,e2,g2,ts2,tt⟩ Q qq) (hT:Tab W)=>i_FormatWorkshop e1 g1 ts1 e2 g2 ts2 tt Q qq mm l1 h1 B1 B2 B3 B4 B5 b1 b2 b3 b4 b5 W h hzR hwk hT
   generalize shopT ⟨⟨e1,g1,ts1,e2,g2,ts2,tt⟩,Q,qq,mm⟩=sh at *
   have KF:=hide kF
   have HSL:=Lib.hid hsl
   clear kF hwk hzR oW4 kW hsl
   obtain ⟨x0,x1,x2,x3,x4,x5,x6,x7,x8,x9,xl⟩:=blk10 kq
   go_wp2_with fail
   refine (KF.out wr oWq (hE.tab.below Bq)).mono ?_
   rintro e w8 ⟨Ar,cr,rfl,hrr,hb8⟩
   rw [HSL.out] at hrr ⊢
   have hro8:=own_below hro hb8
   have B48:=hbq.trans (hb8.mono hzq)
   have hz8:=B48.size
   have HSM:=Lib.hid (show (numsT xs).map Value.string++sh.map Value.string=(numsT xs++sh).map Value.string by simp)
   have HONE:=hide (one_strV sh)
   have hrd8:=Reads.of_own hrr
   clear x0 x1 x2 x3 x4 x5 x6 x7 x8 x9 xl hro hb8 kq oWq hrr KF
   go_wp2_with (at_builtin;refine wpList_append_N _ rfl (.tmp 51) (.tmp 53) _ rfl w4.heap.size 9 j0 _ 1 16 Tryz.underlying24 hj0 hy0 hy1 hy2 rfl (by omega) (.slice Ao k co) k _ rfl hro8 w8.heap.size Ar 5 cr (sh.map Value.string) rfl hrd8 (unhide HONE) ?_ ?_ hz8 (k+5) _ rfl HSM.out ?_;(unfold maxLen;omega);omega;intro A9 c9 w9 ho9 hb9)
   have hlen:(numsT xs++sh).length=k+5:=by rw [List.length_append,HSL.out];unfold numsT;rw [List.length_map,HXL.out]
   have B49:=B48.trans hb9
   have Br9:Below wo.heap.size wo w9:=brw.trans (B49.mono brw.size)
   have S1:=(hSO.below Br9).more Br9.size
   have S2:Strs w9 w9.heap.size A9 (k+5) (numsT xs++sh):=strs_of_own ho9 (by omega) (fun s hs=>Nat.le_trans (HRZ3.out s hs) (by decide))
   go_wp2_with fail
   refine (l_sameTexts w9.heap.size AO A9 (k+5) cO c9 (numsT xs++sh) w9 S1 S2).mono ?_
   rintro e wz ⟨rfl,hbz⟩
   have Bz:=(B4'.trans (B49.mono hz4))
   go_wp2
   go_ret
   exact ⟨rfl,Bz.trans (hbz.mono Bz.size)⟩
end Go.Proofs.YtlimlolciekimaaGreatDoor.fnScripts
