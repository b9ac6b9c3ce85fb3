/- FnTop: the walk. -/
import Derived.BigQuiet
import Derived.Deep.CutBlock
import Derived.Deep.CutRange
import Derived.Deep.DeepCutAuto
import Derived.Deep.LoopGhost
import Derived.Lib.QuietBelow
import Derived.Test.YtlimlolciekimaaGreatRows
import Derived.Test.YtlimlolciekimaaGreatQPw
import Derived.Test.YtlimlolciekimaaGreatQPWork9i
import Derived.Test.YtlimlolciekimaaGreatQPWork9s
import Derived.Test.YtlimlolciekimaaGreatQPaq
import Derived.Test.YtlimlolciekimaaGreatQPu
import Derived.Test.YtlimlolciekimaaGreatQPz
import Derived.Test.YtlimlolciekimaaGreatQPh
namespace Go.Proofs.YtlimlolciekimaaGreat.fnTop
set_option maxHeartbeats 1600000
open Go.ChangeShapes Go.WideShapes Go.ChangeAt Go.RowKit Go.Deep
set_option linter.unusedVariables false
set_option linter.unusedSimpArgs false
set_option maxRecDepth 10000
set_option maxHeartbeats 16000000 in
theorem walkTop (A:Option Addr) (c:Nat) (bs:List Int) (w:World) (hK:Code w w.heap.size A bs) :
  Calls Tryz.prog 3 #[.slice A bs.length c] w fun e w'=>e=.returned (.bool true)∧Below w.heap.size w w':=by
 have hnb:=hK.nb
 have hd:decide (1048576<bs.length)=false:=by simp;omega
 go_enter Tryz.func3,Tryz.ntmps3
 go_wp2_with (go_at_call 4;refine (l_big _ _ _ _ (by omega)).mono ?_;rw [hd];rintro e w' ⟨rfl,rfl⟩)
 refine (s_DrawActs w.heap.size A c bs w hK (Nat.le_refl _)).mono ?_
 rintro e w1 ⟨d1,f1,ss1,d2,f2,ss2,st,P,pp,m,A1,c1,A2,c2,A3,c3,A4,c4,A5,c5,la,Aa,ca,HW,hla,rfl,o_W,o_A,G_⟩
 have hwk:=HW.ok
 have hz:=HW.z
 have s_w1:=G_.size
 obtain ⟨_,hdd,hff,_⟩:=draftOk_iff.1 (workOk_iff.1 hwk).1
 simp only at hdd hff
 subst hdd
 subst hff
 clear HW hK hd
 go_wp2
 generalize e_:(World.alloc _ _)=w2
 symm at e_
 have hX_:Boxy w1 w2:=by rw [e_];exact boxy
 have z_:Below w.heap.size w1 w2:=by rw [e_];exact bel
 have k_w:w2.heap[w1.heap.size]?=some (.cells #[.int .i64 d1,.int .i64 f1,.slice A1 ss1.length c1,.int .i64 d1,.int .i64 f1,.slice A2 ss2.length c2,.slice A3 st.length c3,.slice A4 P.length c4,.slice A5 pp.length c5,.int .i64 m] 33 (0,0)):=by rw [e_];exact (blk_new_at _ _ (by simp))
 replace o_W:=o_W.boxy hX_
 replace o_A:=o_A.boxy hX_
 replace G_:Below w.heap.size w w2:=G_.trans z_
 have s_w2:w1.heap.size≤w2.heap.size:=by rw [e_];simp [World.setCell];try omega
 obtain ⟨bw,eb_⟩:∃ x,x=w1.heap.size:=⟨_,rfl⟩
 rw [← eb_] at k_w
 have l_w:w.heap.size≤bw:=by omega
 have eb_w:=eb_;clear eb_
 clear e_ hX_ z_
 try rw [← eb_w]
 clear eb_w
 go_loopw [5,6] (fun mo i wr=>∃ (k:Nat) (ss2:List ByteArray) (st:List PStep) (P:List PItem) (pp:List PPaper) (m:Int) (A1:Option Addr) (c1:Nat) (A2:Option Addr) (c2:Nat) (A3:Option Addr) (c3:Nat) (A4:Option Addr) (c4:Nat) (A5:Option Addr) (c5:Nat),k≤la.length∧i=.int .i64 (k:Int)∧mo=.int .i64 m∧Hid (workOk (PWork.mk (PDraft.mk d1 f1 ss1 d1 f1 ss2 st) P pp m)=true)∧Hid (OkWork (PDraft.mk d1 f1 ss1 d1 f1 ss2 st) P pp 1048576)∧wr.heap[bw]?=some (.cells #[.int .i64 d1,.int .i64 f1,.slice A1 ss1.length c1,.int .i64 d1,.int .i64 f1,.slice A2 ss2.length c2,.slice A3 st.length c3,.slice A4 P.length c4,.slice A5 pp.length c5,.int .i64 m] 33 (0,0))∧OwnW wr w.heap.size wr.heap.size A1 c1 A2 c2 A3 c3 A4 c4 A5 c5 (PDraft.mk d1 f1 ss1 d1 f1 ss2 st) P pp∧OwnA wr w.heap.size w1.heap.size Aa ca la∧Below w.heap.size w wr) (fun _ i _=>la.length - (intOf i).toNat)
 case atStart=>exact ⟨0,ss2,st,P,pp,m,A1,c1,A2,c2,A3,c3,A4,c4,A5,c5,Nat.zero_le _,rfl,rfl,hwk,hz,k_w,o_W.wide (Nat.le_refl _) s_w2,o_A,G_⟩
 case round =>
  clear k_w o_W o_A G_ hwk hz s_w1
  obtain ⟨k,ss2,st,P,pp,m,A1,c1,A2,c2,A3,c3,A4,c4,A5,c5,hk,rfl,rfl,HWK,HZ,k_w,o_W,o_A,G_⟩:=hrel
  have s_wr:=G_.size
  by_cases hlt:k<la.length
  ·skip
   obtain ⟨hk1,ad,rfl,hab,e0,e1,e2⟩:=(o_A.rd (by omega)).at_ hlt
   have hkk:=doAct_work (k:=la[k].k) (a:=la[k].a) (b:=la[k].b) HWK.out
   have hko:=doActRes_ok (PWork.mk (PDraft.mk d1 f1 ss1 d1 f1 ss2 st) P pp m) la[k].k la[k].a la[k].b HZ.out
   have hkm:=top_money (W:=(PWork.mk (PDraft.mk d1 f1 ss1 d1 f1 ss2 st) P pp m)) (k:=la[k].k) (a:=la[k].a) (b:=la[k].b)
   have hkf:=top_first (W:=(PWork.mk (PDraft.mk d1 f1 ss1 d1 f1 ss2 st) P pp m)) (k:=la[k].k) (a:=la[k].a) (b:=la[k].b)
   have kI:=fun (W:World) (h:OwnW W w.heap.size W.heap.size A1 c1 A2 c2 A3 c3 A4 c4 A5 c5 (PDraft.mk d1 f1 ss1 d1 f1 ss2 st) P pp)=>i_DoAct d1 f1 ss1 d1 f1 ss2 st P pp m la[k].k la[k].a la[k].b W.heap.size A1 A2 A3 A4 A5 c1 c2 c3 c4 c5 W (h.rd (HZ.out.more (by omega))) (Nat.le_refl _) HZ.out
   have kS:=fun (W:World) (h:OwnW W w.heap.size W.heap.size A1 c1 A2 c2 A3 c3 A4 c4 A5 c5 (PDraft.mk d1 f1 ss1 d1 f1 ss2 st) P pp)=>s_DoAct d1 f1 ss1 d1 f1 ss2 st P pp m la[k].k la[k].a la[k].b W.heap.size A1 A2 A3 A4 A5 c1 c2 c3 c4 c5 W (h.rd (HZ.out.more (by omega))) (Nat.le_refl _) HZ.out
   obtain ⟨act,hact⟩:∃ x,la[k]=x:=⟨_,rfl⟩
   rw [hact] at e0 e1 e2 hkk hko hkm hkf
   simp only [hact] at kI kS
   clear hact
   obtain ⟨ak,aa,ab⟩:=act
   simp only at e0 e1 e2 hkk hko hkm hkf kI kS
   generalize doActRes (PWork.mk (PDraft.mk d1 f1 ss1 d1 f1 ss2 st) P pp m) ak aa ab=R at *
   obtain ⟨⟨⟨g1,h1,us,g2,h2,ts,tt⟩,Q,qq,mm⟩,x⟩:=R
   simp only at hkk hko hkm hkf kI kS
   obtain ⟨q1,q2,q3⟩:=hkf
   replace q1:=q1.symm
   replace q2:=q2.symm
   replace q3:=q3.symm
   subst q1
   subst q2
   subst q3
   obtain ⟨_,hdd,hff,_⟩:=draftOk_iff.1 (workOk_iff.1 hkk).1
   simp only at hdd hff
   subst hdd
   subst hff
   have kI2:∀ W:World,OwnW W w.heap.size W.heap.size A1 c1 A2 c2 A3 c3 A4 c4 A5 c5 (PDraft.mk d1 f1 ss1 d1 f1 ss2 st) P pp→Calls Tryz.prog 6 #[.agg #[.int .i64 d1,.int .i64 f1,.slice A1 ss1.length c1,.int .i64 d1,.int .i64 f1,.slice A2 ss2.length c2,.slice A3 st.length c3,.slice A4 P.length c4,.slice A5 pp.length c5,.int .i64 m],.agg #[.int .i64 ak,.int .i64 aa,.int .i64 ab]] W fun e w'=>∃ (B1:Option Addr) (b1:Nat) (B2:Option Addr) (b2:Nat) (B3:Option Addr) (b3:Nat) (B4:Option Addr) (b4:Nat) (B5:Option Addr) (b5:Nat),e=.returned (.tuple #[.agg #[.int .i64 d1,.int .i64 f1,.slice B1 ss1.length b1,.int .i64 d1,.int .i64 f1,.slice B2 ts.length b2,.slice B3 tt.length b3,.slice B4 Q.length b4,.slice B5 qq.length b5,.int .i64 mm],.int .i64 x])∧OwnW w' W.heap.size w'.heap.size B1 b1 B2 b2 B3 b3 B4 b4 B5 b5 (PDraft.mk d1 f1 ss1 d1 f1 ts tt) Q qq∧Below W.heap.size W w':=fun W h=>(kI W h).mono fun e w' q=>q
   have kS2:∀ W:World,OwnW W w.heap.size W.heap.size A1 c1 A2 c2 A3 c3 A4 c4 A5 c5 (PDraft.mk d1 f1 ss1 d1 f1 ss2 st) P pp→Calls Tryz.prog 7 #[.agg #[.int .i64 d1,.int .i64 f1,.slice A1 ss1.length c1,.int .i64 d1,.int .i64 f1,.slice A2 ss2.length c2,.slice A3 st.length c3,.slice A4 P.length c4,.slice A5 pp.length c5,.int .i64 m],.agg #[.int .i64 ak,.int .i64 aa,.int .i64 ab]] W fun e w'=>∃ (B1:Option Addr) (b1:Nat) (B2:Option Addr) (b2:Nat) (B3:Option Addr) (b3:Nat) (B4:Option Addr) (b4:Nat) (B5:Option Addr) (b5:Nat),e=.returned (.tuple #[.agg #[.int .i64 d1,.int .i64 f1,.slice B1 ss1.length b1,.int .i64 d1,.int .i64 f1,.slice B2 ts.length b2,.slice B3 tt.length b3,.slice B4 Q.length b4,.slice B5 qq.length b5,.int .i64 mm],.int .i64 x])∧OwnW w' W.heap.size w'.heap.size B1 b1 B2 b2 B3 b3 B4 b4 B5 b5 (PDraft.mk d1 f1 ss1 d1 f1 ts tt) Q qq∧Below W.heap.size W w':=fun W h=>(kS W h).mono fun e w' q=>q
   have HKI:=hide kI2
   have HKS:=hide kS2
   have HKK:=Lib.hid hkk
   have HKO:=hide hko
   have HKM:=Lib.hid hkm
   have hwm:=workOk_m HWK.out
   have hvm:=workOk_m hkk
   simp only at hwm hvm
   have hki:(k:Int)<(la.length:Int):=by omega
   clear kI kS kI2 kS2 hkk hko hkm
   obtain ⟨x0w,x1w,x2w,x3w,x4w,x5w,x6w,x7w,x8w,x9w,xlw⟩:=blk10 k_w
   go_wp2_with fail
   clear x0w x1w x2w x3w x4w x5w x6w x7w x8w x9w xlw
   have q_w:=blk_lt k_w
   generalize e_:(World.alloc _ _)=w101
   symm at e_
   have hX_:Boxy wr w101:=by rw [e_];exact boxy
   have z_:Below w.heap.size wr w101:=by rw [e_];exact bel
   replace k_w:=hkw e_ (blk_alloc k_w _)
   have k_a:w101.heap[wr.heap.size]?=some (.cells #[.int .i64 ak,.int .i64 aa,.int .i64 ab] 38 (0,0)):=by rw [e_];exact (blk_new_at _ _ (by simp))
   replace o_W:=o_W.boxy hX_
   replace o_A:=o_A.boxy hX_
   replace G_:Below w.heap.size w w101:=G_.trans z_
   have s_w101:wr.heap.size≤w101.heap.size:=by rw [e_];simp [World.setCell];try omega
   obtain ⟨ba,eb_⟩:∃ x,x=wr.heap.size:=⟨_,rfl⟩
   rw [← eb_] at k_a
   have l_a:w.heap.size≤ba:=by omega
   have d_wa:bw<ba:=by omega
   have eb_a:=eb_;clear eb_
   clear e_ hX_ z_ q_w
   try rw [← eb_a]
   clear eb_a
   clear e0 e1 e2 hab
   have o_W:=o_W.wide (Nat.le_refl w.heap.size) (show _≤w101.heap.size from by omega)
   refine (HKI.out w101 o_W).mono ?_
   rintro e w102 ⟨B1,b1,B2,b2,B3,b3,B4,b4,B5,b5,rfl,o_N,z_⟩
   replace k_w:=blk_next k_w z_
   replace k_a:=blk_next k_a z_
   replace o_W:=o_W.below z_
   replace o_A:=o_A.below z_
   replace G_:=G_.trans (z_.mono G_.size)
   have s_w102:=z_.size
   clear z_
   obtain ⟨x0w,x1w,x2w,x3w,x4w,x5w,x6w,x7w,x8w,x9w,xlw⟩:=blk10 k_w
   obtain ⟨x0a,x1a,x2a,xla⟩:=blk3 k_a
   go_wp2_with fail
   clear x0w x1w x2w x3w x4w x5w x6w x7w x8w x9w xlw x0a x1a x2a xla
   have q_w:=blk_lt k_w
   have q_a:=blk_lt k_a
   generalize e_:(World.alloc _ _)=w103
   symm at e_
   have hX_:Boxy w102 w103:=by rw [e_];exact boxy
   have z_:Below w.heap.size w102 w103:=by rw [e_];exact bel
   replace k_w:=hkw e_ (blk_alloc k_w _)
   replace k_a:=hkw e_ (blk_alloc k_a _)
   have k_n:w103.heap[w102.heap.size]?=some (.cells #[.int .i64 d1,.int .i64 f1,.slice B1 ss1.length b1,.int .i64 d1,.int .i64 f1,.slice B2 ts.length b2,.slice B3 tt.length b3,.slice B4 Q.length b4,.slice B5 qq.length b5,.int .i64 mm] 33 (0,0)):=by rw [e_];exact (blk_new_at _ _ (by simp))
   replace o_W:=o_W.boxy hX_
   replace o_A:=o_A.boxy hX_
   replace o_N:=o_N.boxy hX_
   replace G_:Below w.heap.size w w103:=G_.trans z_
   have s_w103:w102.heap.size≤w103.heap.size:=by rw [e_];simp [World.setCell];try omega
   obtain ⟨bn,eb_⟩:∃ x,x=w102.heap.size:=⟨_,rfl⟩
   rw [← eb_] at k_n
   have l_n:w.heap.size≤bn:=by omega
   have d_wn:bw<bn:=by omega
   have d_an:ba<bn:=by omega
   have eb_n:=eb_;clear eb_
   clear e_ hX_ z_ q_w q_a
   try rw [← eb_n]
   clear eb_n
   have o_W:=o_W.wide (Nat.le_refl w.heap.size) (show _≤w103.heap.size from by omega)
   refine (HKS.out w103 o_W).mono ?_
   rintro e w104 ⟨E1,v1,E2,v2,E3,v3,E4,v4,E5,v5,rfl,o_V,z_⟩
   replace k_w:=blk_next k_w z_
   replace k_a:=blk_next k_a z_
   replace k_n:=blk_next k_n z_
   replace o_W:=o_W.below z_
   replace o_A:=o_A.below z_
   replace o_N:=o_N.below z_
   replace G_:=G_.trans (z_.mono G_.size)
   have s_w104:=z_.size
   clear z_
   clear HKI HKS
   obtain ⟨x0n,x1n,x2n,x3n,x4n,x5n,x6n,x7n,x8n,x9n,xln⟩:=blk10 k_n
   go_wp2_with fail
   clear x0n x1n x2n x3n x4n x5n x6n x7n x8n x9n xln
   have q_w:=blk_lt k_w
   have q_a:=blk_lt k_a
   have q_n:=blk_lt k_n
   generalize e_:(World.alloc _ _)=w105
   symm at e_
   have hX_:Boxy w104 w105:=by rw [e_];exact boxy
   have z_:Below w.heap.size w104 w105:=by rw [e_];exact bel
   replace k_w:=hkw e_ (blk_alloc k_w _)
   replace k_a:=hkw e_ (blk_alloc k_a _)
   replace k_n:=hkw e_ (blk_alloc k_n _)
   have k_v:w105.heap[w104.heap.size]?=some (.cells #[.int .i64 d1,.int .i64 f1,.slice E1 ss1.length v1,.int .i64 d1,.int .i64 f1,.slice E2 ts.length v2,.slice E3 tt.length v3,.slice E4 Q.length v4,.slice E5 qq.length v5,.int .i64 mm] 33 (0,0)):=by rw [e_];exact (blk_new_at _ _ (by simp))
   replace o_W:=o_W.boxy hX_
   replace o_A:=o_A.boxy hX_
   replace o_N:=o_N.boxy hX_
   replace o_V:=o_V.boxy hX_
   replace G_:Below w.heap.size w w105:=G_.trans z_
   have s_w105:w104.heap.size≤w105.heap.size:=by rw [e_];simp [World.setCell];try omega
   obtain ⟨bv,eb_⟩:∃ x,x=w104.heap.size:=⟨_,rfl⟩
   rw [← eb_] at k_v
   have l_v:w.heap.size≤bv:=by omega
   have d_wv:bw<bv:=by omega
   have d_av:ba<bv:=by omega
   have d_nv:bn<bv:=by omega
   have eb_v:=eb_;clear eb_
   clear e_ hX_ z_ q_w q_a q_n
   try rw [← eb_v]
   clear eb_v
   refine (i_WorkshopOk d1 f1 ss1 d1 f1 ts tt Q qq mm w105.heap.size B1 B2 B3 B4 B5 b1 b2 b3 b4 b5 w105 (o_N.rd (HKO.out.more (by omega))) (Nat.le_refl _)).mono ?_
   rintro e w106 ⟨rfl,z_⟩
   replace k_w:=blk_next k_w z_
   replace k_a:=blk_next k_a z_
   replace k_n:=blk_next k_n z_
   replace k_v:=blk_next k_v z_
   replace o_W:=o_W.below z_
   replace o_A:=o_A.below z_
   replace o_N:=o_N.below z_
   replace o_V:=o_V.below z_
   replace G_:=G_.trans (z_.mono G_.size)
   have s_w106:=z_.size
   clear z_
   rw [HKK.out]
   obtain ⟨x0n,x1n,x2n,x3n,x4n,x5n,x6n,x7n,x8n,x9n,xln⟩:=blk10 k_n
   obtain ⟨x0v,x1v,x2v,x3v,x4v,x5v,x6v,x7v,x8v,x9v,xlv⟩:=blk10 k_v
   go_wp2_with fail
   clear x0n x1n x2n x3n x4n x5n x6n x7n x8n x9n xln x0v x1v x2v x3v x4v x5v x6v x7v x8v x9v xlv
   have hNz:=o_N.rd (HKO.out.more (by omega))
   have hVz:=o_V.rd (HKO.out.more (by omega))
   refine (s_SameCard d1 f1 d1 f1 w106.heap.size B2 E2 ts.length b2 ts.length v2 ts ts w106 hNz.d.s2 hVz.d.s2 (Nat.le_refl _)).mono ?_
   rintro e w107 ⟨rfl,z_⟩
   replace k_w:=blk_next k_w z_
   replace k_a:=blk_next k_a z_
   replace k_n:=blk_next k_n z_
   replace k_v:=blk_next k_v z_
   replace o_W:=o_W.below z_
   replace o_A:=o_A.below z_
   replace o_N:=o_N.below z_
   replace o_V:=o_V.below z_
   replace G_:=G_.trans (z_.mono G_.size)
   have s_w107:=z_.size
   clear z_
   rw [sameCard_iff.2 ⟨rfl,rfl,rfl⟩]
   clear hNz hVz
   obtain ⟨x0n,x1n,x2n,x3n,x4n,x5n,x6n,x7n,x8n,x9n,xln⟩:=blk10 k_n
   obtain ⟨x0v,x1v,x2v,x3v,x4v,x5v,x6v,x7v,x8v,x9v,xlv⟩:=blk10 k_v
   obtain ⟨x0a,x1a,x2a,xla⟩:=blk3 k_a
   obtain ⟨x0w,x1w,x2w,x3w,x4w,x5w,x6w,x7w,x8w,x9w,xlw⟩:=blk10 k_w
   go_upto_block 2 with fail
   go_cut [5] from 27 to 198 (fun s5 wx=>s5=.int .i64 mm∧w107=wx)
   case first =>
    have hkm:=HKM.out
    by_cases hx1:x=1
    ·subst hx1
     by_cases h1:ak=1
     ·subst h1
      rw [mony_1 (.inl rfl)] at hkm
      have hw1:IntKind.i64.wrap (m - 1)=m - 1:=by rw [IntKind.wrap_i64];omega
      go_wp2_with fail
      go_meet
      exact ⟨by rw [hkm],rfl⟩
     ·by_cases h2:ak=2
      ·subst h2
       rw [mony_1 (.inr rfl)] at hkm
       have hw1:IntKind.i64.wrap (m - 1)=m - 1:=by rw [IntKind.wrap_i64];omega
       go_wp2_with fail
       go_meet
       exact ⟨by rw [hkm],rfl⟩
      ·by_cases h4:ak=4
       ·subst h4
        rw [mony_4] at hkm
        have hw1:IntKind.i64.wrap (2 * ab)=2 * ab:=by rw [IntKind.wrap_i64];omega
        have hw2:IntKind.i64.wrap (m - 2 * ab)=m - 2 * ab:=by rw [IntKind.wrap_i64];omega
        go_wp2_with fail
        go_meet
        exact ⟨by rw [hkm],rfl⟩
       ·by_cases h6:ak=6
        ·subst h6
         rw [mony_6] at hkm
         have hw1:IntKind.i64.wrap (5 * ab)=5 * ab:=by rw [IntKind.wrap_i64];omega
         have hw2:IntKind.i64.wrap (m+5 * ab)=m+5 * ab:=by rw [IntKind.wrap_i64];omega
         go_wp2_with fail
         go_meet
         exact ⟨by rw [hkm],rfl⟩
        ·rw [mony_o h1 h2 h4 h6] at hkm
         have b1:(ak==1)=false:=by simp [h1]
         have b2:(ak==2)=false:=by simp [h2]
         have b4:(ak==4)=false:=by simp [h4]
         have b6:(ak==6)=false:=by simp [h6]
         have c1_:decide (ak=1)=false:=by simp [h1]
         have c2_:decide (ak=2)=false:=by simp [h2]
         have c4_:decide (ak=4)=false:=by simp [h4]
         have c6_:decide (ak=6)=false:=by simp [h6]
         go_wp2_with fail
         go_meet
         exact ⟨by rw [hkm],rfl⟩
    ·rw [mony_no hx1] at hkm
     go_wp2_with fail
     go_meet
     exact ⟨by rw [hkm],rfl⟩
   obtain ⟨rfl,rfl⟩:=hcut
   clear HKM
   have hNp:=(o_N.rd (HKO.out.more (by omega))).p
   have hVp:=(o_V.rd (HKO.out.more (by omega))).p
   go_wp2
   go_loopw [12] (fun q wr=>∃ (j:Nat),j≤10∧q=.int .i64 (j:Int)∧Below w107.heap.size w107 wr) (fun q _=>10 - (intOf q).toNat)
   case atStart=>exact ⟨0,Nat.zero_le _,rfl,Below.refl _ _⟩
   case round =>
    obtain ⟨j,hj,rfl,hbl⟩:=hrel
    by_cases hj2:j<10
    ·have hji:(j:Int)<10:=by omega
     have hsl:=hbl.size
     have k_n2:=blk_below k_n hbl (blk_lt k_n)
     have k_v2:=blk_below k_v hbl (blk_lt k_v)
     obtain ⟨n0,n1,n2,n3,n4,n5,n6,n7,n8,n9,nl⟩:=blk10 k_n2
     obtain ⟨v0,v1_,v2_,v3_,v4_,v5_,v6,v7,v8,v9,vl⟩:=blk10 k_v2
     have rn8:=cell_regrown n8
     have rv8:=cell_regrown v8
     have zw:∀ d_ os,Below w107.heap.size w107 (Go.Sort.grow (redrawn wr d_) os):=fun d_ os=>hbl.trans ((below_regrown wr d_ os).mono hsl)
     have cN:=fun d_ os=>Calls.regrown_of (s_SheetsLeft qq (j:Int) w107.heap.size B5 qq.length b5 (Go.Sort.grow (redrawn wr d_) os) (hNp.below (zw d_ os)) (zw d_ os).size)
     have cV:=fun d_ os=>Calls.regrown_of (s_SheetsLeft qq (j:Int) w107.heap.size E5 qq.length v5 (Go.Sort.grow (redrawn wr d_) os) (hVp.below (zw d_ os)) (zw d_ os).size)
     go_wp2_with fail
     refine wp_region_quiet_below (by kernel_rfl) (lexB_of (by kernel_rfl)) ?_
     try dsimp only [List.append]
     repeat (go_big_quiet_step (first|(go_at_call_of 10 (Value.slice B5 qq.length b5);exact cN _ _)|(go_at_call_of 10 (Value.slice E5 qq.length v5);exact cV _ _)))
     refine wpQuiet_nil ?_
     intro _ hw'
     obtain ⟨⟨dq,osq⟩,hw''⟩:=hw'
     subst hw''
     go_wp2
     go_roundw
     case rel=>exact ⟨j+1,by omega,by go_num,zw dq osq⟩
     case measure=>simp [intOf];omega
    ·have hj10:((j:Nat):Int)=10:=by omega
     rw [hj10]
     clear hNp hVp hj hj2 hj10
     replace k_w:=blk_below k_w hbl (blk_lt k_w)
     replace k_a:=blk_below k_a hbl (blk_lt k_a)
     replace k_n:=blk_below k_n hbl (blk_lt k_n)
     replace k_v:=blk_below k_v hbl (blk_lt k_v)
     replace o_W:=o_W.below hbl
     replace o_A:=o_A.below hbl
     replace o_N:=o_N.below hbl
     replace o_V:=o_V.below hbl
     replace G_:=G_.trans (hbl.mono G_.size)
     have s_wL2:=hbl.size
     clear hbl
     obtain ⟨wL2,hwc⟩:∃ Q9:World,Q9=wr:=⟨_,rfl⟩
     subst hwc
     clear x0n x1n x2n x3n x4n x5n x6n x7n x8n x9n xln x0v x1v x2v x3v x4v x5v x6v x7v x8v x9v xlv x0a x1a x2a xla x0w x1w x2w x3w x4w x5w x6w x7w x8w x9w xlw
     obtain ⟨x0v,x1v,x2v,x3v,x4v,x5v,x6v,x7v,x8v,x9v,xlv⟩:=blk10 k_v
     go_wp2
     clear x0v x1v x2v x3v x4v x5v x6v x7v x8v x9v xlv
     have q_w:=blk_lt k_w
     have q_a:=blk_lt k_a
     have q_n:=blk_lt k_n
     have q_v:=blk_lt k_v
     generalize e_:(World.alloc _ _)=w108
     symm at e_
     have hX_:Boxy wL2 w108:=by rw [e_];exact boxy
     have z_:Below w.heap.size wL2 w108:=by rw [e_];exact bel
     replace k_w:=hkw e_ (blk_alloc k_w _)
     replace k_a:=hkw e_ (blk_alloc k_a _)
     replace k_n:=hkw e_ (blk_alloc k_n _)
     replace k_v:=hkw e_ (blk_alloc k_v _)
     have k_c:w108.heap[wL2.heap.size]?=some (.cells #[.int .i64 d1,.int .i64 f1,.slice E2 ts.length v2] 26 (0,0)):=by rw [e_];exact (blk_new_at _ _ (by simp))
     replace o_W:=o_W.boxy hX_
     replace o_A:=o_A.boxy hX_
     replace o_N:=o_N.boxy hX_
     replace o_V:=o_V.boxy hX_
     replace G_:Below w.heap.size w w108:=G_.trans z_
     have s_w108:wL2.heap.size≤w108.heap.size:=by rw [e_];simp [World.setCell];try omega
     obtain ⟨bc,eb_⟩:∃ x,x=wL2.heap.size:=⟨_,rfl⟩
     rw [← eb_] at k_c
     have l_c:w.heap.size≤bc:=by omega
     have d_wc:bw<bc:=by omega
     have d_ac:ba<bc:=by omega
     have d_nc:bn<bc:=by omega
     have d_vc:bv<bc:=by omega
     have eb_c:=eb_;clear eb_
     clear e_ hX_ z_ q_w q_a q_n q_v
     try rw [← eb_c]
     clear eb_c
     have hVs:=(o_V.rd (HKO.out.more (by omega))).d.s2
     have hcd:cardOk d1 f1 ts=true:=draft_card (workOk_iff.1 HKK.out).1
     have HCD:=Lib.hid hcd
     clear hcd
     go_loopw [14] (fun q wr=>∃ (j:Nat),j≤ts.length∧q=.int .i64 (j:Int)∧Below w108.heap.size w108 wr) (fun q _=>ts.length - (intOf q).toNat)
     case atStart=>exact ⟨0,Nat.zero_le _,rfl,Below.refl _ _⟩
     case round =>
      obtain ⟨j,hj,rfl,hbl⟩:=hrel
      have hsl:=hbl.size
      have htl:=hVs.nb
      have k_c2:=blk_below k_c hbl (blk_lt k_c)
      obtain ⟨g0,g1,g2,gl⟩:=blk3 k_c2
      by_cases hj2:j<ts.length
      ·obtain ⟨hkl,ae,hA,hab,hcs,hsz⟩:=(hVs.below hbl).at_ hj2
       subst hA
       obtain ⟨hst,hlen⟩:=top_len HCD.out (List.getElem_mem hkl)
       have hz16:=sc_size hst
       have hji:(j:Int)<(ts.length:Int):=by omega
       obtain ⟨s,hs⟩:∃ s,ts[j]=s:=⟨_,rfl⟩
       rw [hs] at hcs hst hlen hz16 hsz
       clear hs
       have hw1:IntKind.i64.wrap (d1+f1)=(s.size:Int):=by rw [IntKind.wrap_i64];omega
       have hw2:wrap64 (d1+f1)=(s.size:Int):=by unfold wrap64;omega
       have kN:∀ (W:World) (x:Int),x=(s.size:Int)→Calls Tryz.prog 11 #[.string s,.int .i64 x] W fun e w'=>e=.returned (.bool true)∧W=w':=by
        intro W x hx
        subst hx
        exact i_StaysInside s W hst hz16
       have KN:=hide kN
       have HW1:=Lib.hid hw1
       have HW2:=Lib.hid hw2
       clear hlen kN hw1 hw2 hst hz16
       have r0:=cell_regrown g0
       have r1:=cell_regrown g1
       have r2:=cell_regrown g2
       have r3:=cell_regrown hcs
       have zw:∀ d_ os,Below w108.heap.size w108 (Go.Sort.grow (redrawn wr d_) os):=fun d_ os=>hbl.trans ((below_regrown wr d_ os).mono hsl)
       have kR:=fun d_ os (x:Int) (hx:x=(s.size:Int))=>Calls.regrown_of (w:=wr) (d:=d_) (os:=os) (v:=.bool true) ((unhide KN (Go.Sort.grow (redrawn wr d_) os) x hx).mono fun e w' q=>⟨q.1,by rw [← q.2];exact Below.refl _ _⟩)
       have KR:=hide kR
       clear kR
       go_wp2_with fail
       refine wp_region_quiet_below (by kernel_rfl) (lexB_of (by kernel_rfl)) ?_
       try dsimp only [List.append]
       repeat (go_big_quiet_step ((go_at_call 11;first|exact unhide KR _ _ _ (unhide HW2)|exact unhide KR _ _ _ (unhide HW1))))
       refine wpQuiet_nil ?_
       intro _ hw'
       obtain ⟨⟨dq,osq⟩,hw''⟩:=hw'
       subst hw''
       go_wp2
       go_roundw
       case rel=>exact ⟨j+1,by omega,by go_num,zw dq osq⟩
       case measure=>simp [intOf];omega
      ·have hj10:j=ts.length:=by omega
       subst hj10
       clear hVs hj hj2 g0 g1 g2 gl k_c2 hsl
       replace k_w:=blk_below k_w hbl (blk_lt k_w)
       replace k_a:=blk_below k_a hbl (blk_lt k_a)
       replace k_n:=blk_below k_n hbl (blk_lt k_n)
       replace k_v:=blk_below k_v hbl (blk_lt k_v)
       replace k_c:=blk_below k_c hbl (blk_lt k_c)
       replace o_W:=o_W.below hbl
       replace o_A:=o_A.below hbl
       replace o_N:=o_N.below hbl
       replace o_V:=o_V.below hbl
       replace G_:=G_.trans (hbl.mono G_.size)
       have s_wL3:=hbl.size
       clear hbl
       obtain ⟨wL3,hwc⟩:∃ Q9:World,Q9=wr:=⟨_,rfl⟩
       subst hwc
       obtain ⟨x0n,x1n,x2n,x3n,x4n,x5n,x6n,x7n,x8n,x9n,xln⟩:=blk10 k_n
       obtain ⟨x0c,x1c,x2c,xlc⟩:=blk3 k_c
       go_wp2
       clear x0n x1n x2n x3n x4n x5n x6n x7n x8n x9n xln x0c x1c x2c xlc
       clear k_c
       have q_w:=blk_lt k_w
       have q_a:=blk_lt k_a
       have q_n:=blk_lt k_n
       have q_v:=blk_lt k_v
       generalize e_:(World.alloc _ _)=w109
       symm at e_
       have hX_:Boxy wL3 w109:=by rw [e_];exact boxy
       have z_:Below w.heap.size wL3 w109:=by rw [e_];exact bel
       replace k_w:=hkw e_ (blk_alloc k_w _)
       replace k_a:=hkw e_ (blk_alloc k_a _)
       replace k_n:=hkw e_ (blk_alloc k_n _)
       replace k_v:=hkw e_ (blk_alloc k_v _)
       have k_x:w109.heap[wL3.heap.size]?=some (.cells #[.int .i64 d1,.int .i64 f1,.slice B1 ss1.length b1,.int .i64 d1,.int .i64 f1,.slice B2 ts.length b2,.slice B3 tt.length b3] 29 (0,0)):=by rw [e_];exact (blk_new_at _ _ (by simp))
       replace o_W:=o_W.boxy hX_
       replace o_A:=o_A.boxy hX_
       replace o_N:=o_N.boxy hX_
       replace o_V:=o_V.boxy hX_
       replace G_:Below w.heap.size w w109:=G_.trans z_
       have s_w109:wL3.heap.size≤w109.heap.size:=by rw [e_];simp [World.setCell];try omega
       obtain ⟨bx,eb_⟩:∃ x,x=wL3.heap.size:=⟨_,rfl⟩
       rw [← eb_] at k_x
       have l_x:w.heap.size≤bx:=by omega
       have d_wx:bw<bx:=by omega
       have d_ax:ba<bx:=by omega
       have d_nx:bn<bx:=by omega
       have d_vx:bv<bx:=by omega
       have eb_x:=eb_;clear eb_
       clear e_ hX_ z_ q_w q_a q_n q_v
       try rw [← eb_x]
       clear eb_x
       have hDOK:draftOk (PDraft.mk d1 f1 ss1 d1 f1 ts tt)=true:=(workOk_iff.1 HKK.out).1
       have HDOK:=Lib.hid hDOK
       have p_all:=part_all hDOK
       simp only at p_all
       obtain ⟨lX,hX_,_,_,_,_,_,hX2,_,o_X,_⟩:=o_N.all
       have o_X:=o_X.wide (lo':=w.heap.size) (hi':=w109.heap.size) (by omega) (by omega)
       have o_W:=o_W.wide (Nat.le_refl w.heap.size) (show _≤w109.heap.size from by omega)
       have o_V:=o_V.wide (lo':=w.heap.size) (by omega) (show _≤w109.heap.size from by omega)
       have HZD:=hide HKO.out.d
       clear hDOK
       go_loopg [17] tt.length (fun K q wr=>∃ (sk:List ByteArray) (X1:Option Addr) (x1:Nat) (X2:Option Addr) (x2:Nat) (X3:Option Addr) (x3:Nat),K≤tt.length∧Hid (Part (PDraft.mk d1 f1 ss1 d1 f1 ts tt) K sk)∧wr.heap[bx]?=some (.cells #[.int .i64 d1,.int .i64 f1,.slice X1 ss1.length x1,.int .i64 d1,.int .i64 f1,.slice X2 sk.length x2,.slice X3 K x3] 29 (0,0))∧wr.heap[bn]?=some (.cells #[.int .i64 d1,.int .i64 f1,.slice B1 ss1.length b1,.int .i64 d1,.int .i64 f1,.slice B2 ts.length b2,.slice B3 tt.length b3,.slice B4 Q.length b4,.slice B5 qq.length b5,.int .i64 mm] 33 (0,0))∧wr.heap[bv]?=some (.cells #[.int .i64 d1,.int .i64 f1,.slice E1 ss1.length v1,.int .i64 d1,.int .i64 f1,.slice E2 ts.length v2,.slice E3 tt.length v3,.slice E4 Q.length v4,.slice E5 qq.length v5,.int .i64 mm] 33 (0,0))∧wr.heap[bw]?=some (.cells #[.int .i64 d1,.int .i64 f1,.slice A1 ss1.length c1,.int .i64 d1,.int .i64 f1,.slice A2 ss2.length c2,.slice A3 st.length c3,.slice A4 P.length c4,.slice A5 pp.length c5,.int .i64 m] 33 (0,0))∧OwnDW wr w.heap.size wr.heap.size X1 x1 X2 x2 X3 x3 (PDraft.mk d1 f1 ss1 d1 f1 sk (tt.take K))∧OwnW wr w.heap.size wr.heap.size E1 v1 E2 v2 E3 v3 E4 v4 E5 v5 (PDraft.mk d1 f1 ss1 d1 f1 ts tt) Q qq∧OwnW wr w.heap.size wr.heap.size A1 c1 A2 c2 A3 c3 A4 c4 A5 c5 (PDraft.mk d1 f1 ss1 d1 f1 ss2 st) P pp∧OwnA wr w.heap.size w1.heap.size (some ad) ca la∧Below w.heap.size w wr)
       case atStart=>exact ⟨ts,B1,b1,B2,b2,B3,b3,Nat.le_refl _,p_all,k_x,k_n,k_v,k_w,by rw [List.take_length];exact o_X,o_V,o_W,o_A,G_⟩
       case round =>
        clear k_x k_n k_v k_w k_a o_X o_V o_W o_A o_N G_ p_all
        obtain ⟨sk,X1,x1,X2,x2,X3,x3,hK,HP,k_x,k_n,k_v,k_w,o_X,o_V,o_W,o_A,G_⟩:=hrel
        obtain ⟨K,hgk⟩:∃ K:Nat,K=gk:=⟨_,rfl⟩
        subst hgk
        have s_wr:=G_.size
        have hpc:=draft_card HP.out.ok
        simp only at hpc
        have hkb:=card_bounds hpc
        have hskz:∀ s∈sk,s.size≤16777216:=fun s hs=>by have:=hkb.2.2 s hs;omega
        have hskn:sk.length≤16777216:=by have:=hkb.2.1.2;omega
        have HSK:=hide hskz
        have hzx:OkDraft (PDraft.mk d1 f1 ss1 d1 f1 sk (tt.take K)) 16777216:=⟨by have:=HZD.out.l1;simp only at this ⊢;omega,hskn,by show (tt.take K).length≤_;rw [List.length_take];have:=HZD.out.l3;simp only at this;omega,HZD.out.z1,hskz,fun s hs=>HZD.out.z3 s (List.mem_of_mem_take hs)⟩
        have HZX:=hide hzx
        clear hpc hkb hskz hzx
        by_cases hK0:0<K
        ·skip
         obtain ⟨K1,hKK⟩:∃ K1,K1+1=K:=⟨K - 1,by omega⟩
         have hkK:K1<tt.length:=by omega
         obtain ⟨sp,hpart⟩:=part_of HDOK.out K1
         have HPart:=Lib.hid hpart
         have hP2:=HP.out
         rw [← hKK] at hP2
         have hund:=part_undo HDOK.out hkK hpart hP2
         simp only at hund
         have htk:(tt.take K).length=K:=by rw [List.length_take];omega
         have htk1:(tt.take K1).length=K1:=by rw [List.length_take];omega
         have HTK:=Lib.hid htk
         have HTK1:=Lib.hid htk1
         have kU:∀ W:World,OwnDW W w.heap.size W.heap.size X1 x1 X2 x2 X3 x3 (PDraft.mk d1 f1 ss1 d1 f1 sk (tt.take K))→Calls Tryz.prog 12 #[.agg #[.int .i64 d1,.int .i64 f1,.slice X1 ss1.length x1,.int .i64 d1,.int .i64 f1,.slice X2 sk.length x2,.slice X3 K x3]] W fun e w'=>∃ (Y1:Option Addr) (y1:Nat) (Y2:Option Addr) (y2:Nat) (Y3:Option Addr) (y3:Nat),e=.returned (.tuple #[.agg #[.int .i64 d1,.int .i64 f1,.slice Y1 ss1.length y1,.int .i64 d1,.int .i64 f1,.slice Y2 sp.length y2,.slice Y3 K1 y3],.bool true])∧OwnDW w' W.heap.size w'.heap.size Y1 y1 Y2 y2 Y3 y3 (PDraft.mk d1 f1 ss1 d1 f1 sp (tt.take K1))∧Below W.heap.size W w':=by
          intro W h
          have q:=i_UndoStep (PDraft.mk d1 f1 ss1 d1 f1 sk (tt.take K)) W.heap.size X1 X2 X3 x1 x2 x3 W (h.rd HZX.out) (Nat.le_refl _)
          have hu:=hund
          rw [hKK] at hu
          rw [hu] at q
          unfold draftV at q
          simp only [HTK.out] at q
          refine q.mono ?_
          rintro e w' ⟨Y1,y1,Y2,y2,Y3,y3,rfl,ho,hb⟩
          refine ⟨Y1,y1,Y2,y2,Y3,y3,?_,ho,hb⟩
          simp only [HTK1.out]
         have hKi:(K:Int) - 1=(K1:Int):=by omega
         have hKw:IntKind.i64.wrap ((K:Int) - 1)=(K1:Int):=by rw [IntKind.wrap_i64];omega
         have hKp:(0:Int)<(K:Int):=by omega
         have HKU:=hide kU
         clear kU hund htk htk1 hpart hP2 hKK
         obtain ⟨x0x,x1x,x2x,x3x,x4x,x5x,x6x,xlx⟩:=blk7 k_x
         go_wp2_with fail
         clear x0x x1x x2x x3x x4x x5x x6x xlx
         refine (HKU.out wr o_X).mono ?_
         rintro e w301 ⟨Y1,y1,Y2,y2,Y3,y3,rfl,o_Y,z_⟩
         replace k_n:=blk_next k_n z_
         replace k_v:=blk_next k_v z_
         replace k_w:=blk_next k_w z_
         replace k_x:=blk_next k_x z_
         replace o_X:=o_X.below z_
         replace o_V:=o_V.below z_
         replace o_W:=o_W.below z_
         replace o_A:=o_A.below z_
         replace G_:=G_.trans (z_.mono G_.size)
         have s_w301:=z_.size
         clear z_
         obtain ⟨x0x,x1x,x2x,x3x,x4x,x5x,x6x,xlx⟩:=blk7 k_x
         have f0x:=(blk_cells k_x 0).2
         have f1x:=(blk_cells k_x 1).2
         have f2x:=(blk_cells k_x 2).2
         have f3x:=(blk_cells k_x 3).2
         have f4x:=(blk_cells k_x 4).2
         have f5x:=(blk_cells k_x 5).2
         have f6x:=(blk_cells k_x 6).2
         have hgx:boxAt w301 bx:=boxAt_of k_x
         have hbxw:w.heap.size≤bx:=l_x
         have hd1:bn<bx:=d_nx
         have hd2:bv<bx:=d_vx
         have hd3:bw<bx:=d_wx
         have hs7:=G_.size
         have hkm1:K1<K:=by omega
         have hkm2:K1≤tt.length:=by omega
         have hX7:Boxy w301 ((((((((w301.setCell ⟨bx,0,none⟩ (.int .i64 d1)).setCell ⟨bx,1,none⟩ (.int .i64 f1)).setCell ⟨bx,2,none⟩ (.slice Y1 ss1.length y1)).setCell ⟨bx,3,none⟩ (.int .i64 d1)).setCell ⟨bx,4,none⟩ (.int .i64 f1)).setCell ⟨bx,5,none⟩ (.slice Y2 sp.length y2)).setCell ⟨bx,6,none⟩ (.slice Y3 K1 y3)).alloc (.cells #[.int .i64 d1,.int .i64 f1,.slice Y1 ss1.length y1,.int .i64 d1,.int .i64 f1,.slice Y2 sp.length y2,.slice Y3 K1 y3] 29)):=boxy
         have hz7:w301.heap.size≤(((((((((w301.setCell ⟨bx,0,none⟩ (.int .i64 d1)).setCell ⟨bx,1,none⟩ (.int .i64 f1)).setCell ⟨bx,2,none⟩ (.slice Y1 ss1.length y1)).setCell ⟨bx,3,none⟩ (.int .i64 d1)).setCell ⟨bx,4,none⟩ (.int .i64 f1)).setCell ⟨bx,5,none⟩ (.slice Y2 sp.length y2)).setCell ⟨bx,6,none⟩ (.slice Y3 K1 y3)).alloc (.cells #[.int .i64 d1,.int .i64 f1,.slice Y1 ss1.length y1,.int .i64 d1,.int .i64 f1,.slice Y2 sp.length y2,.slice Y3 K1 y3] 29))).heap.size:=by simp [World.setCell]
         have kX7:(((((((((w301.setCell ⟨bx,0,none⟩ (.int .i64 d1)).setCell ⟨bx,1,none⟩ (.int .i64 f1)).setCell ⟨bx,2,none⟩ (.slice Y1 ss1.length y1)).setCell ⟨bx,3,none⟩ (.int .i64 d1)).setCell ⟨bx,4,none⟩ (.int .i64 f1)).setCell ⟨bx,5,none⟩ (.slice Y2 sp.length y2)).setCell ⟨bx,6,none⟩ (.slice Y3 K1 y3)).alloc (.cells #[.int .i64 d1,.int .i64 f1,.slice Y1 ss1.length y1,.int .i64 d1,.int .i64 f1,.slice Y2 sp.length y2,.slice Y3 K1 y3] 29))).heap[bx]?=some (.cells #[.int .i64 d1,.int .i64 f1,.slice Y1 ss1.length y1,.int .i64 d1,.int .i64 f1,.slice Y2 sp.length y2,.slice Y3 K1 y3] 29 (0,0)):=blk_alloc (blk7_set k_x (.int .i64 d1) (.int .i64 f1) (.slice Y1 ss1.length y1) (.int .i64 d1) (.int .i64 f1) (.slice Y2 sp.length y2) (.slice Y3 K1 y3)) (.cells #[.int .i64 d1,.int .i64 f1,.slice Y1 ss1.length y1,.int .i64 d1,.int .i64 f1,.slice Y2 sp.length y2,.slice Y3 K1 y3] 29)
         have kN7:(((((((((w301.setCell ⟨bx,0,none⟩ (.int .i64 d1)).setCell ⟨bx,1,none⟩ (.int .i64 f1)).setCell ⟨bx,2,none⟩ (.slice Y1 ss1.length y1)).setCell ⟨bx,3,none⟩ (.int .i64 d1)).setCell ⟨bx,4,none⟩ (.int .i64 f1)).setCell ⟨bx,5,none⟩ (.slice Y2 sp.length y2)).setCell ⟨bx,6,none⟩ (.slice Y3 K1 y3)).alloc (.cells #[.int .i64 d1,.int .i64 f1,.slice Y1 ss1.length y1,.int .i64 d1,.int .i64 f1,.slice Y2 sp.length y2,.slice Y3 K1 y3] 29))).heap[bn]?=some (.cells #[.int .i64 d1,.int .i64 f1,.slice B1 ss1.length b1,.int .i64 d1,.int .i64 f1,.slice B2 ts.length b2,.slice B3 tt.length b3,.slice B4 Q.length b4,.slice B5 qq.length b5,.int .i64 mm] 33 (0,0)):=blk_alloc (blk_o7 k_n (show bn≠bx by omega) (.int .i64 d1) (.int .i64 f1) (.slice Y1 ss1.length y1) (.int .i64 d1) (.int .i64 f1) (.slice Y2 sp.length y2) (.slice Y3 K1 y3)) (.cells #[.int .i64 d1,.int .i64 f1,.slice Y1 ss1.length y1,.int .i64 d1,.int .i64 f1,.slice Y2 sp.length y2,.slice Y3 K1 y3] 29)
         have kV7:(((((((((w301.setCell ⟨bx,0,none⟩ (.int .i64 d1)).setCell ⟨bx,1,none⟩ (.int .i64 f1)).setCell ⟨bx,2,none⟩ (.slice Y1 ss1.length y1)).setCell ⟨bx,3,none⟩ (.int .i64 d1)).setCell ⟨bx,4,none⟩ (.int .i64 f1)).setCell ⟨bx,5,none⟩ (.slice Y2 sp.length y2)).setCell ⟨bx,6,none⟩ (.slice Y3 K1 y3)).alloc (.cells #[.int .i64 d1,.int .i64 f1,.slice Y1 ss1.length y1,.int .i64 d1,.int .i64 f1,.slice Y2 sp.length y2,.slice Y3 K1 y3] 29))).heap[bv]?=some (.cells #[.int .i64 d1,.int .i64 f1,.slice E1 ss1.length v1,.int .i64 d1,.int .i64 f1,.slice E2 ts.length v2,.slice E3 tt.length v3,.slice E4 Q.length v4,.slice E5 qq.length v5,.int .i64 mm] 33 (0,0)):=blk_alloc (blk_o7 k_v (show bv≠bx by omega) (.int .i64 d1) (.int .i64 f1) (.slice Y1 ss1.length y1) (.int .i64 d1) (.int .i64 f1) (.slice Y2 sp.length y2) (.slice Y3 K1 y3)) (.cells #[.int .i64 d1,.int .i64 f1,.slice Y1 ss1.length y1,.int .i64 d1,.int .i64 f1,.slice Y2 sp.length y2,.slice Y3 K1 y3] 29)
         have kW7:(((((((((w301.setCell ⟨bx,0,none⟩ (.int .i64 d1)).setCell ⟨bx,1,none⟩ (.int .i64 f1)).setCell ⟨bx,2,none⟩ (.slice Y1 ss1.length y1)).setCell ⟨bx,3,none⟩ (.int .i64 d1)).setCell ⟨bx,4,none⟩ (.int .i64 f1)).setCell ⟨bx,5,none⟩ (.slice Y2 sp.length y2)).setCell ⟨bx,6,none⟩ (.slice Y3 K1 y3)).alloc (.cells #[.int .i64 d1,.int .i64 f1,.slice Y1 ss1.length y1,.int .i64 d1,.int .i64 f1,.slice Y2 sp.length y2,.slice Y3 K1 y3] 29))).heap[bw]?=some (.cells #[.int .i64 d1,.int .i64 f1,.slice A1 ss1.length c1,.int .i64 d1,.int .i64 f1,.slice A2 ss2.length c2,.slice A3 st.length c3,.slice A4 P.length c4,.slice A5 pp.length c5,.int .i64 m] 33 (0,0)):=blk_alloc (blk_o7 k_w (show bw≠bx by omega) (.int .i64 d1) (.int .i64 f1) (.slice Y1 ss1.length y1) (.int .i64 d1) (.int .i64 f1) (.slice Y2 sp.length y2) (.slice Y3 K1 y3)) (.cells #[.int .i64 d1,.int .i64 f1,.slice Y1 ss1.length y1,.int .i64 d1,.int .i64 f1,.slice Y2 sp.length y2,.slice Y3 K1 y3] 29)
         have oY7:=(o_Y.boxy hX7).wide (lo':=w.heap.size) (hi':=(((((((((w301.setCell ⟨bx,0,none⟩ (.int .i64 d1)).setCell ⟨bx,1,none⟩ (.int .i64 f1)).setCell ⟨bx,2,none⟩ (.slice Y1 ss1.length y1)).setCell ⟨bx,3,none⟩ (.int .i64 d1)).setCell ⟨bx,4,none⟩ (.int .i64 f1)).setCell ⟨bx,5,none⟩ (.slice Y2 sp.length y2)).setCell ⟨bx,6,none⟩ (.slice Y3 K1 y3)).alloc (.cells #[.int .i64 d1,.int .i64 f1,.slice Y1 ss1.length y1,.int .i64 d1,.int .i64 f1,.slice Y2 sp.length y2,.slice Y3 K1 y3] 29))).heap.size) (by omega) (by omega)
         have oV7:=(o_V.boxy hX7).wide (lo':=w.heap.size) (hi':=(((((((((w301.setCell ⟨bx,0,none⟩ (.int .i64 d1)).setCell ⟨bx,1,none⟩ (.int .i64 f1)).setCell ⟨bx,2,none⟩ (.slice Y1 ss1.length y1)).setCell ⟨bx,3,none⟩ (.int .i64 d1)).setCell ⟨bx,4,none⟩ (.int .i64 f1)).setCell ⟨bx,5,none⟩ (.slice Y2 sp.length y2)).setCell ⟨bx,6,none⟩ (.slice Y3 K1 y3)).alloc (.cells #[.int .i64 d1,.int .i64 f1,.slice Y1 ss1.length y1,.int .i64 d1,.int .i64 f1,.slice Y2 sp.length y2,.slice Y3 K1 y3] 29))).heap.size) (Nat.le_refl _) (by omega)
         have oW7:=(o_W.boxy hX7).wide (lo':=w.heap.size) (hi':=(((((((((w301.setCell ⟨bx,0,none⟩ (.int .i64 d1)).setCell ⟨bx,1,none⟩ (.int .i64 f1)).setCell ⟨bx,2,none⟩ (.slice Y1 ss1.length y1)).setCell ⟨bx,3,none⟩ (.int .i64 d1)).setCell ⟨bx,4,none⟩ (.int .i64 f1)).setCell ⟨bx,5,none⟩ (.slice Y2 sp.length y2)).setCell ⟨bx,6,none⟩ (.slice Y3 K1 y3)).alloc (.cells #[.int .i64 d1,.int .i64 f1,.slice Y1 ss1.length y1,.int .i64 d1,.int .i64 f1,.slice Y2 sp.length y2,.slice Y3 K1 y3] 29))).heap.size) (Nat.le_refl _) (by omega)
         have oA7:=o_A.boxy hX7
         have G70:Below w.heap.size w ((((((((w301.setCell ⟨bx,0,none⟩ (.int .i64 d1)).setCell ⟨bx,1,none⟩ (.int .i64 f1)).setCell ⟨bx,2,none⟩ (.slice Y1 ss1.length y1)).setCell ⟨bx,3,none⟩ (.int .i64 d1)).setCell ⟨bx,4,none⟩ (.int .i64 f1)).setCell ⟨bx,5,none⟩ (.slice Y2 sp.length y2)).setCell ⟨bx,6,none⟩ (.slice Y3 K1 y3))):=G_.trans (by repeat (first|(with_reducible exact Below.refl _ _)|(with_reducible refine Below.setCell ?_ (show w.heap.size≤bx from hbxw) _)))
         have G7:Below w.heap.size w (((((((((w301.setCell ⟨bx,0,none⟩ (.int .i64 d1)).setCell ⟨bx,1,none⟩ (.int .i64 f1)).setCell ⟨bx,2,none⟩ (.slice Y1 ss1.length y1)).setCell ⟨bx,3,none⟩ (.int .i64 d1)).setCell ⟨bx,4,none⟩ (.int .i64 f1)).setCell ⟨bx,5,none⟩ (.slice Y2 sp.length y2)).setCell ⟨bx,6,none⟩ (.slice Y3 K1 y3)).alloc (.cells #[.int .i64 d1,.int .i64 f1,.slice Y1 ss1.length y1,.int .i64 d1,.int .i64 f1,.slice Y2 sp.length y2,.slice Y3 K1 y3] 29))):=G70.alloc G70.size _
         clear G70
         have H7:=hide (And.intro kX7 (And.intro kN7 (And.intro kV7 (And.intro kW7 (And.intro oY7 (And.intro oV7 (And.intro oW7 (And.intro oA7 G7))))))))
         clear hX7 hz7 kX7 kN7 kV7 kW7 oY7 oV7 oW7 oA7 G7
         clear hgx
         go_wp2
         go_roundg K1
         case measure=>exact hkm1
         case rel=>exact ⟨sp,Y1,y1,Y2,y2,Y3,y3,hkm2,HPart.out,unhide H7⟩
        ·skip
         have hK0':K=0:=by omega
         have hP0:=HP.out
         rw [hK0'] at hP0
         have hP1:=(part_zero hP0).symm
         simp only at hP1
         subst hK0'
         subst hP1
         have hXs:=(o_X.rd HZX.out).s2
         have hWs:=(o_W.rd (HZ.out.more (by omega))).d.s1
         obtain ⟨x0n,x1n,x2n,x3n,x4n,x5n,x6n,x7n,x8n,x9n,xln⟩:=blk10 k_n
         obtain ⟨x0x,x1x,x2x,x3x,x4x,x5x,x6x,xlx⟩:=blk7 k_x
         obtain ⟨x0w,x1w,x2w,x3w,x4w,x5w,x6w,x7w,x8w,x9w,xlw⟩:=blk10 k_w
         go_wp2_with fail
         clear x0n x1n x2n x3n x4n x5n x6n x7n x8n x9n xln x0x x1x x2x x3x x4x x5x x6x xlx x0w x1w x2w x3w x4w x5w x6w x7w x8w x9w xlw
         refine (s_SameCard d1 f1 d1 f1 wr.heap.size X2 A1 ss1.length x2 ss1.length c1 ss1 ss1 wr hXs hWs (Nat.le_refl _)).mono ?_
         rintro e w401 ⟨rfl,z_⟩
         replace k_n:=blk_next k_n z_
         replace k_v:=blk_next k_v z_
         replace k_w:=blk_next k_w z_
         replace k_x:=blk_next k_x z_
         replace o_X:=o_X.below z_
         replace o_V:=o_V.below z_
         replace o_W:=o_W.below z_
         replace o_A:=o_A.below z_
         replace G_:=G_.trans (z_.mono G_.size)
         have s_w401:=z_.size
         clear z_
         rw [sameCard_iff.2 ⟨rfl,rfl,rfl⟩]
         clear hXs hWs
         obtain ⟨x0v,x1v,x2v,x3v,x4v,x5v,x6v,x7v,x8v,x9v,xlv⟩:=blk10 k_v
         obtain ⟨x0w,x1w,x2w,x3w,x4w,x5w,x6w,x7w,x8w,x9w,xlw⟩:=blk10 k_w
         obtain ⟨⟨f0w,f1w,f2w,f3w,f4w⟩,f5w,f6w,f7w,f8w,f9w⟩:=blk10f k_w
         have hgx:boxAt w401 bw:=boxAt_of k_w
         have hbxw:w.heap.size≤bw:=l_w
         go_wp2
         go_roundw
         case rel =>
          refine ⟨k+1,ts,tt,Q,qq,mm,E1,v1,E2,v2,E3,v3,E4,v4,E5,v5,by omega,by go_num,rfl,HKK.out,HKO.out,blk10_set k_w _ _ _ _ _ _ _ _ _ _,?_,?_,?_⟩
          ·exact (o_V.boxy (w':=((((((((((w401.setCell ⟨bw,0,none⟩ (.int .i64 d1)).setCell ⟨bw,1,none⟩ (.int .i64 f1)).setCell ⟨bw,2,none⟩ (.slice E1 ss1.length v1)).setCell ⟨bw,3,none⟩ (.int .i64 d1)).setCell ⟨bw,4,none⟩ (.int .i64 f1)).setCell ⟨bw,5,none⟩ (.slice E2 ts.length v2)).setCell ⟨bw,6,none⟩ (.slice E3 tt.length v3)).setCell ⟨bw,7,none⟩ (.slice E4 Q.length v4)).setCell ⟨bw,8,none⟩ (.slice E5 qq.length v5)).setCell ⟨bw,9,none⟩ (.int .i64 mm))) boxy).wide (Nat.le_refl _) (by simp [World.setCell];omega)
          ·exact o_A.boxy (w':=((((((((((w401.setCell ⟨bw,0,none⟩ (.int .i64 d1)).setCell ⟨bw,1,none⟩ (.int .i64 f1)).setCell ⟨bw,2,none⟩ (.slice E1 ss1.length v1)).setCell ⟨bw,3,none⟩ (.int .i64 d1)).setCell ⟨bw,4,none⟩ (.int .i64 f1)).setCell ⟨bw,5,none⟩ (.slice E2 ts.length v2)).setCell ⟨bw,6,none⟩ (.slice E3 tt.length v3)).setCell ⟨bw,7,none⟩ (.slice E4 Q.length v4)).setCell ⟨bw,8,none⟩ (.slice E5 qq.length v5)).setCell ⟨bw,9,none⟩ (.int .i64 mm))) boxy
          ·exact G_.trans (by repeat (first|(with_reducible exact Below.refl _ _)|(with_reducible refine Below.setCell ?_ (show w.heap.size≤bw from hbxw) _)))
         case measure=>simp [intOf];omega
  ·skip
   have hkn:k=la.length:=by omega
   have hki:¬(k:Int)<(la.length:Int):=by omega
   have hdk:draftOk (PDraft.mk d1 f1 ss1 d1 f1 ss2 st)=true:=(workOk_iff.1 HWK.out).1
   have HDK:=Lib.hid hdk
   clear hdk
   obtain ⟨x0w,x1w,x2w,x3w,x4w,x5w,x6w,x7w,x8w,x9w,xlw⟩:=blk10 k_w
   go_wp2_with fail
   clear x0w x1w x2w x3w x4w x5w x6w x7w x8w x9w xlw
   refine (i_WorkshopOk d1 f1 ss1 d1 f1 ss2 st P pp m wr.heap.size A1 A2 A3 A4 A5 c1 c2 c3 c4 c5 wr (o_W.rd (HZ.out.more (by omega))) (Nat.le_refl _)).mono ?_
   rintro e w501 ⟨rfl,z_⟩
   replace k_w:=blk_next k_w z_
   replace o_W:=o_W.below z_
   replace G_:=G_.trans (z_.mono G_.size)
   have s_w501:=z_.size
   clear z_
   rw [HWK.out]
   obtain ⟨x0w,x1w,x2w,x3w,x4w,x5w,x6w,x7w,x8w,x9w,xlw⟩:=blk10 k_w
   go_wp2_with fail
   clear x0w x1w x2w x3w x4w x5w x6w x7w x8w x9w xlw
   refine (i_DraftOk (PDraft.mk d1 f1 ss1 d1 f1 ss2 st) w501.heap.size A1 A2 A3 c1 c2 c3 w501 (o_W.rd (HZ.out.more (by omega))).d (Nat.le_refl _)).mono ?_
   rintro e w502 ⟨rfl,z_⟩
   replace k_w:=blk_next k_w z_
   replace o_W:=o_W.below z_
   replace G_:=G_.trans (z_.mono G_.size)
   have s_w502:=z_.size
   clear z_
   rw [HDK.out]
   go_wp2
   go_ret
   exact ⟨rfl,G_⟩
end Go.Proofs.YtlimlolciekimaaGreat.fnTop
