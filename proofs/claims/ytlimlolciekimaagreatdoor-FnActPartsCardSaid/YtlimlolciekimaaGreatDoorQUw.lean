/- Contracts of the program's and the reference's functions (ScenP, Draw9, Draw10, Draw11, Draw12). -/
import Derived.Deep.DeepCutAuto
import Derived.Deep.RegionHeld3
import Derived.Deep.RegionWith
import Derived.Test.YtlimlolciekimaaGreatDoorRows
import Derived.Test.YtlimlolciekimaaGreatDoorQUr
import Derived.Test.YtlimlolciekimaaGreatDoorQUu
import Derived.Test.YtlimlolciekimaaGreatDoorQUv
import Derived.Test.YtlimlolciekimaaGreatDoorQUg
import Derived.Test.YtlimlolciekimaaGreatDoorQUf
import Derived.Test.YtlimlolciekimaaGreatDoorQUWork7BuyPapers
import Derived.Test.YtlimlolciekimaaGreatDoorQUWork5KeepCards
import Derived.Test.YtlimlolciekimaaGreatDoorQUq
import Derived.Test.YtlimlolciekimaaGreatDoorQUp
namespace Go.Proofs.YtlimlolciekimaaGreatDoor
set_option maxHeartbeats 1600000
set_option linter.unusedVariables false
theorem drew_cardOk {d f:Nat} {ss:List ByteArray} (hb:1≤d∧d≤4∧1≤f∧f≤4∧1≤ss.length∧ss.length≤6) (h:∀ x∈ss,Drew d f x):cardOk d f ss=true:=by
 have hall:ss.all (stripOf d f)=true:=List.all_eq_true.2 fun x hx=>by
  have hD:=h x hx
  have hst:=drew_strip hD hb.1 (by omega) hb.2.2.1 (by omega)
  obtain ⟨k1,k2,k3⟩:=hD
  unfold stripOf downOf forwardOf
  rw [hst,k1,k2]
  simp
 unfold cardOk
 rw [hall]
 simp [isStepsB,inB]
 omega
theorem draft_first {d f:Int} {ss:List ByteArray} (h:cardOk d f ss=true):draftOk ⟨d,f,ss,d,f,ss,[]⟩=true:=draftOk_iff.2 ⟨⟨h,Nat.zero_le _⟩,rfl,rfl,rfl⟩
theorem doRes_no {D:PDraft} {s:PStep} (q:(doRes D s).2≠true):(doRes D s).1=D:=by
 unfold doRes at q ⊢
 split
 ·rename_i hc;rw [if_pos hc] at q;exact absurd rfl q
 ·rfl
theorem draft_do {D:PDraft} (s:PStep) (h:draftOk D=true):draftOk (doRes D s).1=true:=by
 by_cases q:(doRes D s).2=true
 ·exact doRes_draft q
 ·rw [doRes_no q];exact h
theorem step_card {on:Bool} {d f:Int} {ss:List ByteArray} {K F L T I:Int} {b a:ByteArray} (h:cardOk d f ss=true):cardOk d f (stepRes on d f ss K F L T I b a).1=true:=by
 have hbox:∀ c:UInt8,cardOk d f (boxRes c d f ss F L T).1=true:=by
  intro c
  unfold boxRes
  split
  ·rename_i q;exact cardOk_flips h q.2
  ·exact h
 have hput:∀ (s:ByteArray),cardOk d f (putAt d f ss I s).1=true:=by
  intro s
  unfold putAt
  split
  ·rename_i q
   rw [Bool.and_eq_true] at q
   exact q.2
  ·exact h
 have hex:∀ (x y:ByteArray),cardOk d f (exchRes d f ss I x y).1=true:=by
  intro x y
  unfold exchRes
  split
  ·exact hput _
  ·exact h
 unfold stepRes
 split
 ·exact h
 ·split
  ·exact hbox _
  ·split
   ·exact hbox _
   ·split
    ·exact hex _ _
    ·exact hex _ _
theorem runSteps_card {d f:Int}:∀ (l:List PStep) (ss sn:List ByteArray),cardOk d f ss=true→runSteps d f l ss=some sn→cardOk d f sn=true:=by
 intro l
 induction l with
 |nil=>intro ss sn h e;simp only [runSteps] at e;injection e with e;rw [← e];exact h
 |cons s l ih =>
  intro ss sn h e
  simp only [runSteps] at e
  split at e
  ·exact ih _ _ (step_card h) e
  ·cases e
theorem draft_card {D:PDraft} (h:draftOk D=true):cardOk D.d2 D.f2 D.ss2=true:=by
 obtain ⟨⟨h1,_⟩,h2,h3,h4⟩:=draftOk_iff.1 h
 rw [← h2,← h3]
 exact runSteps_card _ _ _ h1 h4
theorem sc_size {s:ByteArray} (h:isStrip s.data.toList=true):s.size≤16:=by
 unfold isStrip inB at h
 simp at h
 have:s.data.toList.length=s.size:=by simp
 simp at this
 omega
theorem card_bounds {d f:Int} {ss:List ByteArray} (h:cardOk d f ss=true):(1≤d∧d≤8∧1≤f∧f≤8)∧(1≤ss.length∧ss.length≤10)∧∀ s∈ss,s.size≤16:=by
 unfold cardOk at h
 simp only [Bool.and_eq_true,List.all_eq_true] at h
 obtain ⟨⟨h1,h2⟩,h3,h4⟩:=h
 have e1:=inB_iff'.1 h1
 have e2:=inB_iff'.1 h2
 have e3:=inB_iff'.1 h3
 refine ⟨⟨by omega,by omega,by omega,by omega⟩,⟨by omega,by omega⟩,fun s hs=>?_⟩
 have hs2:=h4 s hs
 unfold stripOf downOf at hs2
 by_cases hi:isStrip s.data.toList=true
 ·exact sc_size hi
 ·rw [if_neg hi] at hs2
  simp at hs2
  omega
theorem work_first {D:PDraft} {m:Int} (h:draftOk D=true) (h0:0≤m) (h1:m≤1000000):workOk ⟨D,[],[],m⟩=true:=workOk_iff.2 ⟨h,rfl,Nat.zero_le _,rfl,h0,h1⟩
theorem buy_work {W:PWork} (k n:Int) (h:workOk W=true):workOk (buyRes W k n).1=true:=by
 unfold buyRes
 split
 ·rename_i q;exact q.2.2
 ·exact h
theorem keep_work {W:PWork} (nm:ByteArray) (h:workOk W=true):workOk (keepRes W nm).1=true:=by
 unfold keepRes
 split
 ·rename_i q;exact workOk_P h (added_cat q.2)
 ·exact h
theorem doRes_st {D:PDraft} (s:PStep):(doRes D s).1.st.length≤D.st.length+1:=by
 unfold doRes
 split
 ·simp
 ·exact Nat.le_succ _
theorem added_mem {P:List PItem} {x y:PItem} (h:y∈(added P x).1):y=x∨y∈P:=by
 unfold added at h
 split at h
 ·split at h
  ·exact insP_mem h
  ·exact .inr h
 ·exact .inr h
theorem added_len (P:List PItem) (x:PItem):(added P x).1.length≤P.length+1:=by
 unfold added
 split
 ·split
  ·show (insP P x _).length≤_
   unfold insP
   rw [List.length_append,List.length_cons,List.length_take,List.length_drop]
   omega
  ·exact Nat.le_succ _
 ·exact Nat.le_succ _
def drawNames:List ByteArray:=[⟨#[97,114,99,104]⟩,⟨#[98,97,114,110]⟩,⟨#[98,111,97,116]⟩,⟨#[98,114,105,100,103,101]⟩,⟨#[99,97,115,116,108,101]⟩,⟨#[99,97,116]⟩,⟨#[99,104,97,105,114]⟩,⟨#[100,114,97,103,111,110]⟩,⟨#[102,111,120]⟩,⟨#[104,111,117,115,101]⟩]
theorem drawNames_size {x:ByteArray} (h:x∈drawNames):x.size≤16777216:=by
 simp [drawNames] at h
 rcases h with rfl|rfl|rfl|rfl|rfl|rfl|rfl|rfl|rfl|rfl <;> decide
structure DrewW (W:PWork) (np ni:Nat):Prop where
 ok:workOk W=true
 z:OkWork W.D W.P W.pp 1048576
 st:W.D.st.length≤6
 pl:W.pp.length≤np
 pk:∀ p∈W.pp,p.k≤2
 il:W.P.length≤ni
 nm:∀ x∈W.P,x.nm∈drawNames
 mb:W.m≤5000
theorem DrewW.first {D:PDraft} {m:Int} (h:draftOk D=true) (hz:OkDraft D 1048576) (hs:D.st.length≤6) (h0:0≤m) (h1:m≤5000):DrewW ⟨D,[],[],m⟩ 0 0 :=
 ⟨work_first h h0 (by omega),⟨hz,⟨Nat.zero_le _,(fun x hx=>by cases hx)⟩,Nat.zero_le _⟩,hs,Nat.le_refl _,(fun p hp=>by cases hp),Nat.le_refl _,(fun x hx=>by cases hx),h1⟩
theorem DrewW.more {W:PWork} {np ni mp mi:Nat} (h:DrewW W np ni) (h1:np≤mp) (h2:ni≤mi):DrewW W mp mi:=⟨h.ok,h.z,h.st,by have:=h.pl;omega,h.pk,by have:=h.il;omega,h.nm,h.mb⟩
theorem DrewW.buy {W:PWork} {np ni:Nat} (h:DrewW W np ni) {k:Int} (n:Int) (hk:k≤2) (hn:np≤1048575):DrewW (buyRes W k n).1 (np+1) ni:=by
 have hw:=buy_work k n h.ok
 unfold buyRes at hw ⊢
 split
 ·rename_i q
  rw [if_pos q] at hw
  have:=h.pl
  refine ⟨hw,⟨h.z.d,h.z.i,by show (W.pp++_).length≤_;simp;omega⟩,h.st,by show (W.pp++_).length≤_;simp;omega,fun p hp=>?_,h.il,h.nm,by have:=inB_iff'.1 q.1;have:=h.mb;show W.m - 2 * n≤5000;omega⟩
  rcases List.mem_append.1 hp with hp|hp
  ·exact h.pk p hp
  ·rw [List.mem_singleton.1 hp];exact hk
 ·exact h.more (by omega) (Nat.le_refl _)
theorem DrewW.keep {W:PWork} {np ni:Nat} (h:DrewW W np ni) {nm:ByteArray} (hn:nm∈drawNames):DrewW (keepRes W nm).1 np (ni+1):=by
 have hw:=keep_work nm h.ok
 have hz:=keepRes_ok W nm h.z (drawNames_size hn)
 unfold keepRes at hw hz ⊢
 split
 ·rename_i q
  rw [if_pos q] at hw hz
  have:=h.il
  have:=added_len W.P ⟨nm,W.D.d2,W.D.f2,W.D.ss2⟩
  refine ⟨hw,hz,h.st,h.pl,h.pk,by show (added W.P _).1.length≤_;omega,fun x hx=>?_,h.mb⟩
  rcases added_mem hx with rfl|hx
  ·exact hn
  ·exact h.nm x hx
 ·exact h.more (Nat.le_refl _) (by omega)
open Go.ChangeShapes Go.WideShapes Go.ChangeAt Go.RowKit
set_option linter.unusedSimpArgs false
set_option maxRecDepth 10000
def DrawnDraft (g B:Nat) (A:Option Addr) (c:Nat) (bs:List Int) (w:World) (e:Ending) (w':World):Prop :=
 ∃ (d1 f1:Int) (ss1:List ByteArray) (d2 f2:Int) (ss2:List ByteArray) (st:List PStep) (A1:Option Addr) (c1:Nat) (A2:Option Addr) (c2:Nat) (A3:Option Addr) (c3:Nat),
  draftOk ⟨d1,f1,ss1,d2,f2,ss2,st⟩=true∧OkDraft ⟨d1,f1,ss1,d2,f2,ss2,st⟩ 1048576∧st.length≤6 ∧
  e=.returned (.agg #[.int .i64 d1,.int .i64 f1,.slice A1 ss1.length c1,.int .i64 d2,.int .i64 f2,.slice A2 ss2.length c2,.slice A3 st.length c3])∧OwnD w' w.heap.size w'.heap.size A1 c1 A2 c2 A3 c3 ⟨d1,f1,ss1,d2,f2,ss2,st⟩∧Cur w' g B A c bs∧w.grownBy w' (some g)
theorem bf7 {w:World} {g:Nat} {t:TypeId} {a0 a1 a2 a3 a4 a5 a6:Value} (h:w.heap[g]?=some (.cells #[a0,a1,a2,a3,a4,a5,a6] t (0,0))) :
  (w.frozen? ⟨g,0,none⟩=false∧w.frozen? ⟨g,1,none⟩=false∧w.frozen? ⟨g,2,none⟩=false∧w.frozen? ⟨g,3,none⟩=false)∧(w.frozen? ⟨g,4,none⟩=false∧w.frozen? ⟨g,5,none⟩=false∧w.frozen? ⟨g,6,none⟩=false) :=
 ⟨⟨(blk_cells h 0).2,(blk_cells h 1).2,(blk_cells h 2).2,(blk_cells h 3).2⟩,(blk_cells h 4).2,(blk_cells h 5).2,(blk_cells h 6).2⟩
theorem blk_o7 {w:World} {g g2:Nat} {o:Obj} (h:w.heap[g]?=some o) (hne:g≠g2) (a0 a1 a2 a3 a4 a5 a6:Value):(((((((w.setCell ⟨g2,0,none⟩ a0).setCell ⟨g2,1,none⟩ a1).setCell ⟨g2,2,none⟩ a2).setCell ⟨g2,3,none⟩ a3).setCell ⟨g2,4,none⟩ a4).setCell ⟨g2,5,none⟩ a5).setCell ⟨g2,6,none⟩ a6).heap[g]?=some o :=
 blk_other (blk_other (blk_other (blk_other (blk_other (blk_other (blk_other h hne _) hne _) hne _) hne _) hne _) hne _) hne _
theorem own_first {w:World} {lo m hi c1 c2:Nat} {d f:Int} {ss:List ByteArray} {A1 A2:Option Addr} (h1:OwnS w lo m A1 c1 ss) (h2:OwnS w m hi A2 c2 ss) (h3:lo≤m) (h4:m≤hi):OwnD w lo hi A1 c1 A2 c2 none 0 ⟨d,f,ss,d,f,ss,[]⟩ :=
 ⟨h1.wide (Nat.le_refl _) h4,h2.wide h3 (Nat.le_refl _),⟨World.ownsRow_nil w _ _ _,fun k hk=>by simp [Value.ownBlock] at hk⟩,fun k hk hk2=>by
  have:=h1.top k hk
  have:=(h2.row.lt k hk2).1
  omega⟩
theorem leafD {wf w0:World} {b g:Nat} {d f:Int} {ss:List ByteArray} {A A0:Option Addr} {c c0:Nat} {z0 z1 z2 z3 z4 z5 z6:Value} (hk:wf.heap[g]?=some (.cells #[z0,z1,z2,z3,z4,z5,z6] 29 (0,0))) (ho:OwnS wf b wf.heap.size A c ss) (hb:Below b w0 wf) (hg:b≤g) :
  (((((((wf.setCell ⟨g,0,none⟩ (.int .i64 d)).setCell ⟨g,1,none⟩ (.int .i64 f)).setCell ⟨g,2,none⟩ (.slice A0 ss.length c0)).setCell ⟨g,3,none⟩ (.int .i64 d)).setCell ⟨g,4,none⟩ (.int .i64 f)).setCell ⟨g,5,none⟩ (.slice A ss.length c)).setCell ⟨g,6,none⟩ (.slice none 0 0)).heap[g]?=some (.cells #[.int .i64 d,.int .i64 f,.slice A0 ss.length c0,.int .i64 d,.int .i64 f,.slice A ss.length c,.slice none 0 0] 29 (0,0))∧OwnS (((((((wf.setCell ⟨g,0,none⟩ (.int .i64 d)).setCell ⟨g,1,none⟩ (.int .i64 f)).setCell ⟨g,2,none⟩ (.slice A0 ss.length c0)).setCell ⟨g,3,none⟩ (.int .i64 d)).setCell ⟨g,4,none⟩ (.int .i64 f)).setCell ⟨g,5,none⟩ (.slice A ss.length c)).setCell ⟨g,6,none⟩ (.slice none 0 0)) b (((((((wf.setCell ⟨g,0,none⟩ (.int .i64 d)).setCell ⟨g,1,none⟩ (.int .i64 f)).setCell ⟨g,2,none⟩ (.slice A0 ss.length c0)).setCell ⟨g,3,none⟩ (.int .i64 d)).setCell ⟨g,4,none⟩ (.int .i64 f)).setCell ⟨g,5,none⟩ (.slice A ss.length c)).setCell ⟨g,6,none⟩ (.slice none 0 0)).heap.size A c ss∧b≤g∧Below b w0 (((((((wf.setCell ⟨g,0,none⟩ (.int .i64 d)).setCell ⟨g,1,none⟩ (.int .i64 f)).setCell ⟨g,2,none⟩ (.slice A0 ss.length c0)).setCell ⟨g,3,none⟩ (.int .i64 d)).setCell ⟨g,4,none⟩ (.int .i64 f)).setCell ⟨g,5,none⟩ (.slice A ss.length c)).setCell ⟨g,6,none⟩ (.slice none 0 0)):=by
 refine ⟨blk7_set hk _ _ _ _ _ _ _,?_,hg,?_⟩
 ·exact (ho.box hk (by decide) (by repeat (first|(with_reducible exact World.grownBy.refl _ _)|(with_reducible refine only_setCell ?_ (.inl rfl) _)))).wide (Nat.le_refl _) (by simp [World.setCell])
 ·exact bel
theorem leafDN {wf w0:World} {b g:Nat} {d f:Int} {ss:List ByteArray} {A A0:Option Addr} {c c0:Nat} (hb:Below b w0 wf) (ho:OwnS wf b wf.heap.size A c ss) (hg:g=wf.heap.size) (hg2:b≤g) :
  (wf.alloc (.cells #[.int .i64 d,.int .i64 f,.slice A0 ss.length c0,.int .i64 d,.int .i64 f,.slice A ss.length c,.slice none 0 0] 29)).heap[g]?=some (.cells #[.int .i64 d,.int .i64 f,.slice A0 ss.length c0,.int .i64 d,.int .i64 f,.slice A ss.length c,.slice none 0 0] 29 (0,0))∧OwnS (wf.alloc (.cells #[.int .i64 d,.int .i64 f,.slice A0 ss.length c0,.int .i64 d,.int .i64 f,.slice A ss.length c,.slice none 0 0] 29)) b (wf.alloc (.cells #[.int .i64 d,.int .i64 f,.slice A0 ss.length c0,.int .i64 d,.int .i64 f,.slice A ss.length c,.slice none 0 0] 29)).heap.size A c ss∧b≤g∧Below b w0 (wf.alloc (.cells #[.int .i64 d,.int .i64 f,.slice A0 ss.length c0,.int .i64 d,.int .i64 f,.slice A ss.length c,.slice none 0 0] 29)):=by
 subst hg
 exact ⟨blk_new_at _ _ rfl,(ho.alloc _).wide (Nat.le_refl _) (by simp),hg2,bel⟩
set_option maxHeartbeats 6400000 in
theorem s_l37Draft (g B:Nat) (A:Option Addr) (c:Nat) (bs:List Int) (w:World) (hC:Cur w g B A c bs) :
  Calls Tryz.prog 129 #[.pointer (some ⟨g,0,none⟩)] w (DrawnDraft g B A c bs w):=by
 have hgw:=hC.lt
 have hlB:=hC.lo
 have C_:=hC
 have G_:=World.grownBy.refl w (some g)
 clear hC
 go_enter Tryz.func129,Tryz.ntmps129
 go_wp2_with fail
 generalize e_:(World.alloc _ _)=w1
 symm at e_
 have z_:Below w.heap.size w w1:=by rw [e_];exact bel
 have k_r:w1.heap[w.heap.size]?=some (.cells #[.int .i64 0,.int .i64 0,.slice none 0 0,.int .i64 0,.int .i64 0,.slice none 0 0,.slice none 0 0] 29 (0,0)):=by rw [e_];exact (blk_new_at _ _ (by simp))
 replace C_:Cur w1 g B A c bs:=by rw [e_];exact (C_.alloc _)
 replace G_:w.grownBy w1 (some g):=grown_then G_ z_
 have s_w1:w.heap.size≤w1.heap.size:=by rw [e_];simp [World.setCell];try omega
 obtain ⟨br,eb_⟩:∃ x,x=w.heap.size:=⟨_,rfl⟩
 rw [← eb_] at k_r
 have l_r:w.heap.size≤br:=by omega
 have eb_r:=eb_;clear eb_
 clear e_ z_
 try rw [← eb_r]
 clear eb_r
 refine (s_l05Card g B A c bs w1 C_).mono ?_
 rintro e w2 ⟨d,f,ss,A0,c0,hbd,hss,rfl,o_x,C2_,g_⟩
 replace k_r:=C_.blk_keep k_r (by omega) g_
 replace G_:=only_trans G_ g_
 have s_w2:=g_.size
 clear C_ g_
 have C_:=C2_;clear C2_
 have hck:=drew_cardOk hbd hss
 have hnn:ss.length≤6:=hbd.2.2.2.2.2
 have hsz:∀ s∈ss,s.size≤16777216:=fun s hs=>by have:=(hss s hs).2.2;omega
 have HCK:=Lib.hid hck
 have HSZ:=hide hsz
 clear hck hsz hss hbd
 generalize (d:Int)=d at *
 generalize (f:Int)=f at *
 go_wp2
 have q_r:=blk_lt k_r
 generalize e_:(World.alloc _ _)=w3
 symm at e_
 have hX_:Boxy w2 w3:=by rw [e_];exact boxy
 have z_:Below w.heap.size w2 w3:=by rw [e_];exact bel
 replace k_r:=hkw e_ (blk_alloc k_r _)
 have k_x:w3.heap[w2.heap.size]?=some (.cells #[.int .i64 d,.int .i64 f,.slice A0 ss.length c0] 26 (0,0)):=by rw [e_];exact (blk_new_at _ _ (by simp))
 replace o_x:=o_x.boxy hX_
 replace C_:Cur w3 g B A c bs:=by rw [e_];exact (C_.alloc _)
 replace G_:w.grownBy w3 (some g):=grown_then G_ z_
 have s_w3:w2.heap.size≤w3.heap.size:=by rw [e_];simp [World.setCell];try omega
 obtain ⟨bx,eb_⟩:∃ x,x=w2.heap.size:=⟨_,rfl⟩
 rw [← eb_] at k_x
 have l_x:w.heap.size≤bx:=by omega
 have d_rx:br<bx:=by omega
 have eb_x:=eb_;clear eb_
 clear e_ hX_ z_ q_r
 try rw [← eb_x]
 clear eb_x
 obtain ⟨x0x,x1x,x2x,xlx⟩:=blk3 k_x
 have hlr:=blk_lt k_r
 have SX:Strs w3 w3.heap.size A0 ss.length ss:=o_x.rd (by omega) HSZ.out
 go_cut [4] (fun s4 wx=>∃ (g9:Nat) (A9:Option Addr) (c9:Nat),s4=.pointer (some ⟨g9,0,none⟩)∧wx.heap[g9]?=some (.cells #[.int .i64 d,.int .i64 f,.slice A0 ss.length c0,.int .i64 d,.int .i64 f,.slice A9 ss.length c9,.slice none 0 0] 29 (0,0))∧OwnS wx w3.heap.size wx.heap.size A9 c9 ss∧w3.heap.size≤g9∧Below w3.heap.size w3 wx)
 case first =>
  go_region_held3 (fun W=>(∀ b o,b<w3.heap.size→W.cell? ⟨b,o,none⟩=(w3).cell? ⟨b,o,none⟩)∧(∀ b o,b<w3.heap.size→W.frozen? ⟨b,o,none⟩=(w3).frozen? ⟨b,o,none⟩)∧Below (w3.heap.size) (w3) W) (exact keep_of bel) (first|(go_at_call 181;have hq:=(‹_∧_∧Below _ _ _›).2.2;refine (s_l05Copy d f w3.heap.size A0 ss.length c0 ss _ ?_ ?_).mono ?_;exact SX.below hq;(first|exact hq.size|omega);rintro e wq ⟨A3,c3,rfl,ho3,hb3⟩;have hqs3:=hq.size;have hbs3:=hb3.size;(try simp at hqs3);(try simp at hbs3);(have hos:OwnS wq w3.heap.size wq.heap.size A3 c3 ss:=(OwnS.of ho3 (Nat.le_refl _)).wide (by first|exact hq.size|omega) (Nat.le_refl _));obtain ⟨hcb3,hfb3⟩:=bcell hb3;(try (have hzl1:w3.heap.size<wq.heap.size:=(by omega)))))
  all_goals (go_wp2_with fail)
  all_goals (go_meet)
  all_goals (
   refine ⟨_,A3,c3,rfl,?_⟩
   first
    |((with_reducible refine leafDN ?_ ?_ ?_ ?_);(first|exact bel);(focus ((repeat (first|(with_reducible exact hos)|(with_reducible refine OwnS.drew ?_)|(with_reducible refine OwnS.alloc ?_ _)));(first|done|fail)));(first|rfl|(simp;first|done|fail));(first|omega|(simp;first|done|omega)))
    |((with_reducible apply leafD);(case hk=>(focus ((repeat (first|(with_reducible exact blk_new_at _ _ (by first|rfl|(simp;first|done|fail)))|(with_reducible refine blk_next ?_ hb3)|(with_reducible refine blk_drew ?_)|(with_reducible refine blk_alloc ?_ _)));(first|done|fail))));(case ho=>(focus ((repeat (first|(with_reducible exact hos)|(with_reducible refine OwnS.drew ?_)|(with_reducible refine OwnS.alloc ?_ _)));(first|done|fail))));(case hb=>exact bel);(case hg=>first|omega|(simp;first|done|omega))))
 obtain ⟨bD,A9,c9,rfl,k_D,o_9,l9_,hb9⟩:=hcut
 obtain ⟨w5,hwc⟩:∃ Q9:World,Q9=wc:=⟨_,rfl⟩
 subst hwc
 clear x0x x1x x2x xlx
 clear SX
 replace k_r:=blk_below k_r hb9 (blk_lt k_r)
 replace C_:=C_.below hb9
 replace G_:=grown_then G_ (hb9.mono G_.size)
 have hs9:=hb9.size
 have hlx:=blk_lt k_x
 have o_D:OwnD w5 w.heap.size w5.heap.size A0 c0 A9 c9 none 0 ⟨d,f,ss,d,f,ss,[]⟩:=own_first ((o_x.below hb9).wide (by omega) (by omega)) o_9 (by omega) (by omega)
 clear k_x o_x o_9 hlx hb9
 have d_rD:br<bD:=by omega
 clear hlr
 go_wp2_with fail
 refine (s_l01Below 7 g B A c bs w5 C_ (by omega) (by omega)).mono ?_
 rintro e w6 ⟨m0,rfl,hm0,hm1,C2_,g_⟩
 replace k_r:=C_.blk_keep k_r (by omega) g_
 replace k_D:=C_.blk_keep k_D (by omega) g_
 replace o_D:=o_D.boxy (C_.boxy g_)
 replace G_:=only_trans G_ g_
 have s_w6:=g_.size
 clear C_ g_
 have C_:=C2_;clear C2_
 obtain ⟨m,rfl⟩:∃ m:Nat,m0=m:=⟨m0.toNat,by omega⟩
 go_wp2
 go_loopw [5] (fun q wr=>∃ (j:Nat) (d1 f1:Int) (ss1:List ByteArray) (d2 f2:Int) (ss2:List ByteArray) (st:List PStep) (A1:Option Addr) (c1:Nat) (A2:Option Addr) (c2:Nat) (A3:Option Addr) (c3:Nat),j≤6∧q=.int .i64 (j:Int)∧Hid (draftOk ⟨d1,f1,ss1,d2,f2,ss2,st⟩=true)∧Hid (OkDraft ⟨d1,f1,ss1,d2,f2,ss2,st⟩ 1048576)∧st.length+j≤6∧wr.heap[bD]?=some (.cells #[.int .i64 d1,.int .i64 f1,.slice A1 ss1.length c1,.int .i64 d2,.int .i64 f2,.slice A2 ss2.length c2,.slice A3 st.length c3] 29 (0,0))∧wr.heap[br]?=some (.cells #[.int .i64 0,.int .i64 0,.slice none 0 0,.int .i64 0,.int .i64 0,.slice none 0 0,.slice none 0 0] 29 (0,0))∧OwnD wr w.heap.size wr.heap.size A1 c1 A2 c2 A3 c3 ⟨d1,f1,ss1,d2,f2,ss2,st⟩∧Cur wr g B A c bs∧w.grownBy wr (some g)) (fun q _=>(intOf q).toNat)
 case atStart=>exact ⟨m,d,f,ss,d,f,ss,[],A0,c0,A9,c9,none,0,by omega,rfl,draft_first HCK.out,⟨by show ss.length≤_;omega,by show ss.length≤_;omega,Nat.zero_le _,HSZ.out,HSZ.out,fun s hs=>by cases hs⟩,by simp;omega,k_D,k_r,⟨o_D.o1.wide (Nat.le_refl _) (by omega),o_D.o2.wide (Nat.le_refl _) (by omega),o_D.o3.wide (Nat.le_refl _) (by omega),o_D.ne⟩,C_,G_⟩
 case round =>
  clear k_D k_r o_D C_ G_ HCK HSZ
  obtain ⟨j,d1,f1,ss1,d2,f2,ss2,st,A1,c1,A2,c2,A3,c3,hj,rfl,HD,HK,hst,k_D,k_r,o_D,C_,G_⟩:=hrel
  have hgws:=G_.size
  have hgD:g<wr.heap.size:=C_.lt
  by_cases h0:0<j
  ·obtain ⟨x0,x1,x2,x3,x4,x5,x6,xl⟩:=blk7 k_D
   have hcb:=card_bounds (draft_card HD.out)
   simp only at hcb
   have hn10:=hcb.2.1.2
   have hz16:=hcb.2.2
   have HZ16:=hide hz16
   have HRD:=hide (fun (W:World) (h:OwnD W w.heap.size W.heap.size A1 c1 A2 c2 A3 c3 ⟨d1,f1,ss1,d2,f2,ss2,st⟩)=>h.rd (HK.out.more (by omega)))
   clear hcb hz16
   go_wp2
   have kst:∀ W:World,Cur W g B A c bs→OwnS W w.heap.size wr.heap.size A2 c2 ss2→Calls Tryz.prog 184 #[.pointer (some ⟨g,0,none⟩),.agg #[.int .i64 d2,.int .i64 f2,.slice A2 ss2.length c2]] W fun e w'=>∃ s:PStep,(s.b.size≤16777216∧s.a.size≤16777216)∧e=.returned (.agg #[.int .i64 s.K,.int .i64 s.F,.int .i64 s.L,.int .i64 s.T,.int .i64 s.I,.string s.b,.string s.a])∧Cur w' g B A c bs∧W.grownBy w' (some g):=fun W h1 h2=>s_l37Step d2 f2 ss2 A2 c2 w.heap.size wr.heap.size g B A c bs W h1 h2 hn10 HZ16.out
   have kdo:∀ (s:PStep) (W:World),OwnD W w.heap.size W.heap.size A1 c1 A2 c2 A3 c3 ⟨d1,f1,ss1,d2,f2,ss2,st⟩→s.b.size≤16777216→s.a.size≤16777216→Calls Tryz.prog 183 #[.agg #[.int .i64 d1,.int .i64 f1,.slice A1 ss1.length c1,.int .i64 d2,.int .i64 f2,.slice A2 ss2.length c2,.slice A3 st.length c3],.agg #[.int .i64 s.K,.int .i64 s.F,.int .i64 s.L,.int .i64 s.T,.int .i64 s.I,.string s.b,.string s.a]] W fun e w'=>∃ (e1 g1:Int) (ts1:List ByteArray) (e2 g2:Int) (ts2:List ByteArray) (tt:List PStep) (B1:Option Addr) (b1:Nat) (B2:Option Addr) (b2:Nat) (B3:Option Addr) (b3:Nat) (ok:Bool),Hid (draftOk ⟨e1,g1,ts1,e2,g2,ts2,tt⟩=true)∧Hid (OkDraft ⟨e1,g1,ts1,e2,g2,ts2,tt⟩ 1048576)∧tt.length≤st.length+1∧e=.returned (.tuple #[.agg #[.int .i64 e1,.int .i64 g1,.slice B1 ts1.length b1,.int .i64 e2,.int .i64 g2,.slice B2 ts2.length b2,.slice B3 tt.length b3],.bool ok])∧OwnD w' W.heap.size w'.heap.size B1 b1 B2 b2 B3 b3 ⟨e1,g1,ts1,e2,g2,ts2,tt⟩∧Below W.heap.size W w':=by
    intro s W h hs1 hs2
    refine (s_DoStep ⟨d1,f1,ss1,d2,f2,ss2,st⟩ s W.heap.size A1 A2 A3 c1 c2 c3 W (HRD.out W h) (Nat.le_refl _) hs1 hs2).mono ?_
    rintro e w' ⟨B1,b1,B2,b2,B3,b3,rfl,ho,hb⟩
    exact ⟨_,_,_,_,_,_,_,B1,b1,B2,b2,B3,b3,_,draft_do s HD.out,doRes_ok _ s HK.out ⟨hs1,hs2⟩,doRes_st s,rfl,ho,hb⟩
   have HST:=hide kst
   have HDO:=hide kdo
   clear kst kdo
   have C0:Cur wr.drew g B A c bs:=C_.drew
   have S0:OwnS wr.drew w.heap.size wr.heap.size A2 c2 ss2:=o_D.o2.drew
   have O0:OwnD wr.drew w.heap.size wr.heap.size A1 c1 A2 c2 A3 c3 ⟨d1,f1,ss1,d2,f2,ss2,st⟩:=o_D.drew
   have kD0:wr.drew.heap[bD]?=some (.cells #[.int .i64 d1,.int .i64 f1,.slice A1 ss1.length c1,.int .i64 d2,.int .i64 f2,.slice A2 ss2.length c2,.slice A3 st.length c3] 29 (0,0)):=k_D
   have kr0:wr.drew.heap[br]?=some (.cells #[.int .i64 0,.int .i64 0,.slice none 0 0,.int .i64 0,.int .i64 0,.slice none 0 0,.slice none 0 0] 29 (0,0)):=k_r
   have G0:w.grownBy wr.drew (some g):=only_trans G_ ⟨rfl,rfl,rfl,Nat.le_refl _,fun _ _ _=>rfl⟩
   have hbDw:=blk_lt k_D
   have hsd:wr.drew.heap.size=wr.heap.size:=rfl
   go_region_with (first
    |(go_at_call 184;refine (HST.out _ C0 S0).mono ?_;rintro e w6 ⟨s,⟨hsb,hsa⟩,rfl,C6,g6⟩;(have k6:=C0.blk_keep kD0 (show bD≠g by omega) g6);obtain ⟨y0,y1,y2,y3,y4,y5,y6,yl⟩:=blk7 k6)
    |(go_at_call 183;(have hs6:=g6.size);refine (HDO.out _ w6 ⟨(O0.boxy (C0.boxy g6)).o1.wide (Nat.le_refl _) (by omega),(O0.boxy (C0.boxy g6)).o2.wide (Nat.le_refl _) (by omega),(O0.boxy (C0.boxy g6)).o3.wide (Nat.le_refl _) (by omega),O0.ne⟩ hsb hsa).mono ?_;rintro e w7 ⟨e1,g1,ts1,e2,g2,ts2,tt,B1,b1,B2,b2,B3,b3,ok,HD7,HK7,htt,rfl,o7,z7⟩;(have k7:=blk_next k6 z7);obtain ⟨v0,v1,v2,v3,v4,v5,v6,vl⟩:=blk7 k7;obtain ⟨⟨u0,u1,u2,u3⟩,u4,u5,u6⟩:=bf7 k7))
   all_goals (
    have hs7:=z7.size
    have kr7:=blk_next (C0.blk_keep kr0 (show br≠g by omega) g6) z7
    have C7:=C6.below z7
    have G7:w.grownBy w7 (some g):=grown_then (only_trans G0 g6) (z7.mono (by have:=G0.size;omega))
    have hgb:boxAt w7 bD:=boxAt_of k7
    go_wp2
    go_roundw
    case rel =>
     refine ⟨j - 1,e1,g1,ts1,e2,g2,ts2,tt,B1,b1,B2,b2,B3,b3,by omega,by congr 1;omega,HD7,HK7,by omega,blk7_set k7 _ _ _ _ _ _ _,blk_o7 kr7 (show br≠bD by omega) _ _ _ _ _ _ _,?_,?_,grown_then G7 bel⟩
     ·exact (o7.boxy (w':=(((((((w7.setCell ⟨bD,0,none⟩ (.int .i64 e1)).setCell ⟨bD,1,none⟩ (.int .i64 g1)).setCell ⟨bD,2,none⟩ (.slice B1 ts1.length b1)).setCell ⟨bD,3,none⟩ (.int .i64 e2)).setCell ⟨bD,4,none⟩ (.int .i64 g2)).setCell ⟨bD,5,none⟩ (.slice B2 ts2.length b2)).setCell ⟨bD,6,none⟩ (.slice B3 tt.length b3))) boxy).wide (by omega) (by simp [World.setCell])
     ·iterate 7 (refine Cur.put_other ?_ (show g≠bD by omega) (show B≤bD by omega) _)
      exact C7
    case measure=>simp [intOf];omega)
  ·have hj0:j=0:=by omega
   subst hj0
   obtain ⟨x0,x1,x2,x3,x4,x5,x6,xl⟩:=blk7 k_D
   obtain ⟨y0,y1,y2,y3,y4,y5,y6,yl⟩:=blk7 k_r
   obtain ⟨⟨u0,u1,u2,u3⟩,u4,u5,u6⟩:=bf7 k_r
   go_wp2
   refine bodyPost_ret (v:=.agg #[.int .i64 d1,.int .i64 f1,.slice A1 ss1.length c1,.int .i64 d2,.int .i64 f2,.slice A2 ss2.length c2,.slice A3 st.length c3]) (by simp [results,Tryz.results129,go_sem, *]) rfl ?_
   refine ⟨d1,f1,ss1,d2,f2,ss2,st,A1,c1,A2,c2,A3,c3,HD.out,HK.out,by omega,rfl,?_,?_,grown_then G_ bel⟩
   ·have hgb:boxAt wr br:=boxAt_of k_r
    exact (o_D.boxy (w':=(((((((wr.setCell ⟨br,0,none⟩ (.int .i64 d1)).setCell ⟨br,1,none⟩ (.int .i64 f1)).setCell ⟨br,2,none⟩ (.slice A1 ss1.length c1)).setCell ⟨br,3,none⟩ (.int .i64 d2)).setCell ⟨br,4,none⟩ (.int .i64 f2)).setCell ⟨br,5,none⟩ (.slice A2 ss2.length c2)).setCell ⟨br,6,none⟩ (.slice A3 st.length c3))) boxy).wide (Nat.le_refl _) (by simp [World.setCell])
   ·iterate 7 (refine Cur.put_other ?_ (show g≠br by omega) (show B≤br by omega) _)
    exact C_
def DrawnWork (g B:Nat) (A:Option Addr) (c:Nat) (bs:List Int) (w:World) (e:Ending) (w':World):Prop :=
 ∃ (d1 f1:Int) (ss1:List ByteArray) (d2 f2:Int) (ss2:List ByteArray) (st:List PStep) (P:List PItem) (pp:List PPaper) (m:Int) (A1:Option Addr) (c1:Nat) (A2:Option Addr) (c2:Nat) (A3:Option Addr) (c3:Nat) (A4:Option Addr) (c4:Nat) (A5:Option Addr) (c5:Nat),DrewW ⟨⟨d1,f1,ss1,d2,f2,ss2,st⟩,P,pp,m⟩ 2 2∧e=.returned (.agg #[.int .i64 d1,.int .i64 f1,.slice A1 ss1.length c1,.int .i64 d2,.int .i64 f2,.slice A2 ss2.length c2,.slice A3 st.length c3,.slice A4 P.length c4,.slice A5 pp.length c5,.int .i64 m])∧OwnW w' w.heap.size w'.heap.size A1 c1 A2 c2 A3 c3 A4 c4 A5 c5 ⟨d1,f1,ss1,d2,f2,ss2,st⟩ P pp∧Cur w' g B A c bs∧w.grownBy w' (some g)
theorem blk_other10 {w:World} {g r:Nat} {o:Obj} (h:w.heap[g]?=some o) (hne:g≠r) (a0 a1 a2 a3 a4 a5 a6 a7 a8 a9:Value):((((((((((w.setCell ⟨r,0,none⟩ a0).setCell ⟨r,1,none⟩ a1).setCell ⟨r,2,none⟩ a2).setCell ⟨r,3,none⟩ a3).setCell ⟨r,4,none⟩ a4).setCell ⟨r,5,none⟩ a5).setCell ⟨r,6,none⟩ a6).setCell ⟨r,7,none⟩ a7).setCell ⟨r,8,none⟩ a8).setCell ⟨r,9,none⟩ a9).heap[g]?=some o :=
 blk_other (p:=⟨r,9,none⟩) (blk_other (p:=⟨r,8,none⟩) (blk_other (p:=⟨r,7,none⟩) (blk_other7 h hne a0 a1 a2 a3 a4 a5 a6) hne _) hne _) hne _
theorem put10 {w:World} {g r B:Nat} {A:Option Addr} {c:Nat} {bs:List Int} (h:Cur w g B A c bs) (hne:g≠r) (hB:B≤r) (a0 a1 a2 a3 a4 a5 a6 a7 a8 a9:Value):Cur ((((((((((w.setCell ⟨r,0,none⟩ a0).setCell ⟨r,1,none⟩ a1).setCell ⟨r,2,none⟩ a2).setCell ⟨r,3,none⟩ a3).setCell ⟨r,4,none⟩ a4).setCell ⟨r,5,none⟩ a5).setCell ⟨r,6,none⟩ a6).setCell ⟨r,7,none⟩ a7).setCell ⟨r,8,none⟩ a8).setCell ⟨r,9,none⟩ a9) g B A c bs:=by
 iterate 10 (refine Cur.put_other ?_ (show g≠r from hne) (show B≤r from hB) _)
 exact h
theorem below10 {w:World} {r b:Nat} (hb:b≤r) (a0 a1 a2 a3 a4 a5 a6 a7 a8 a9:Value):Below b w ((((((((((w.setCell ⟨r,0,none⟩ a0).setCell ⟨r,1,none⟩ a1).setCell ⟨r,2,none⟩ a2).setCell ⟨r,3,none⟩ a3).setCell ⟨r,4,none⟩ a4).setCell ⟨r,5,none⟩ a5).setCell ⟨r,6,none⟩ a6).setCell ⟨r,7,none⟩ a7).setCell ⟨r,8,none⟩ a8).setCell ⟨r,9,none⟩ a9):=by
 exact Below.setCell (p:=⟨r,9,none⟩) (Below.setCell (p:=⟨r,8,none⟩) (Below.setCell (p:=⟨r,7,none⟩) (Below.setCell (p:=⟨r,6,none⟩) (Below.setCell (p:=⟨r,5,none⟩) (Below.setCell (p:=⟨r,4,none⟩) (Below.setCell (p:=⟨r,3,none⟩) (Below.setCell (p:=⟨r,2,none⟩) (Below.setCell (p:=⟨r,1,none⟩) (Below.setCell (p:=⟨r,0,none⟩) (Below.refl b w) hb _) hb _) hb _) hb _) hb _) hb _) hb _) hb _) hb _) hb _
theorem own10 {w:World} {r lo hi lo':Nat} {A1 A2 A3 A4 A5:Option Addr} {c1 c2 c3 c4 c5:Nat} {D:PDraft} {P:List PItem} {pp:List PPaper} (h:OwnW w lo hi A1 c1 A2 c2 A3 c3 A4 c4 A5 c5 D P pp) (hk:boxAt w r) (hl:lo'≤lo) (hh:hi≤w.heap.size) (a0 a1 a2 a3 a4 a5 a6 a7 a8 a9:Value):OwnW ((((((((((w.setCell ⟨r,0,none⟩ a0).setCell ⟨r,1,none⟩ a1).setCell ⟨r,2,none⟩ a2).setCell ⟨r,3,none⟩ a3).setCell ⟨r,4,none⟩ a4).setCell ⟨r,5,none⟩ a5).setCell ⟨r,6,none⟩ a6).setCell ⟨r,7,none⟩ a7).setCell ⟨r,8,none⟩ a8).setCell ⟨r,9,none⟩ a9) lo' ((((((((((w.setCell ⟨r,0,none⟩ a0).setCell ⟨r,1,none⟩ a1).setCell ⟨r,2,none⟩ a2).setCell ⟨r,3,none⟩ a3).setCell ⟨r,4,none⟩ a4).setCell ⟨r,5,none⟩ a5).setCell ⟨r,6,none⟩ a6).setCell ⟨r,7,none⟩ a7).setCell ⟨r,8,none⟩ a8).setCell ⟨r,9,none⟩ a9).heap.size A1 c1 A2 c2 A3 c3 A4 c4 A5 c5 D P pp :=
 (h.boxy (w':=((((((((((w.setCell ⟨r,0,none⟩ a0).setCell ⟨r,1,none⟩ a1).setCell ⟨r,2,none⟩ a2).setCell ⟨r,3,none⟩ a3).setCell ⟨r,4,none⟩ a4).setCell ⟨r,5,none⟩ a5).setCell ⟨r,6,none⟩ a6).setCell ⟨r,7,none⟩ a7).setCell ⟨r,8,none⟩ a8).setCell ⟨r,9,none⟩ a9)) boxy).wide hl (by simp [World.setCell];exact hh)
theorem OwnW.first {w:World} {lo hi:Nat} {A1 A2 A3:Option Addr} {c1 c2 c3:Nat} {D:PDraft} (h:OwnD w lo hi A1 c1 A2 c2 A3 c3 D) (hl:lo≤hi):OwnW w lo hi A1 c1 A2 c2 A3 c3 none 0 none 0 D [] [] :=
 OwnW.mk3 (l1:=lo) (h1:=hi) (l2:=hi) (h2:=hi) (l3:=hi) (h3:=hi) (L:=[]) (OwnDW.of h) rfl ⟨World.ownsRow_nil w _ _ _,fun k hk=>by simp [Value.ownBlock] at hk,fun r hr=>(by cases hr),List.Pairwise.nil⟩ ⟨World.ownsRow_nil w _ _ _,fun k hk=>by simp [Value.ownBlock] at hk⟩ (by omega) (by omega)
theorem s_l35Name (g B:Nat) (A:Option Addr) (c:Nat) (bs:List Int) (w:World) (hC:Cur w g B A c bs) :
  Calls Tryz.prog 133 #[.pointer (some ⟨g,0,none⟩)] w fun e w'=>∃ nm,nm∈drawNames∧e=.returned (.string nm)∧Cur w' g B A c bs∧w.grownBy w' (some g):=by
 have hO:OwnS (w.alloc (.cells #[.string ⟨#[97,114,99,104]⟩,.string ⟨#[98,97,114,110]⟩,.string ⟨#[98,111,97,116]⟩,.string ⟨#[98,114,105,100,103,101]⟩,.string ⟨#[99,97,115,116,108,101]⟩,.string ⟨#[99,97,116]⟩,.string ⟨#[99,104,97,105,114]⟩,.string ⟨#[100,114,97,103,111,110]⟩,.string ⟨#[102,111,120]⟩,.string ⟨#[104,111,117,115,101]⟩] 9)) w.heap.size (w.heap.size+1) (some ⟨w.heap.size,0,none⟩) 10 drawNames :=
  ⟨World.ownsRow_lit w (base:=w.heap.size) (e:=9) (size:=1) #[.string ⟨#[97,114,99,104]⟩,.string ⟨#[98,97,114,110]⟩,.string ⟨#[98,111,97,116]⟩,.string ⟨#[98,114,105,100,103,101]⟩,.string ⟨#[99,97,115,116,108,101]⟩,.string ⟨#[99,97,116]⟩,.string ⟨#[99,104,97,105,114]⟩,.string ⟨#[100,114,97,103,111,110]⟩,.string ⟨#[102,111,120]⟩,.string ⟨#[104,111,117,115,101]⟩] 10 (Nat.le_refl _) (by unfold maxLen;omega) rfl,fun k hk=>by simp [Value.ownBlock] at hk;omega⟩
 have hC1:=hC.alloc (.cells #[.string ⟨#[97,114,99,104]⟩,.string ⟨#[98,97,114,110]⟩,.string ⟨#[98,111,97,116]⟩,.string ⟨#[98,114,105,100,103,101]⟩,.string ⟨#[99,97,115,116,108,101]⟩,.string ⟨#[99,97,116]⟩,.string ⟨#[99,104,97,105,114]⟩,.string ⟨#[100,114,97,103,111,110]⟩,.string ⟨#[102,111,120]⟩,.string ⟨#[104,111,117,115,101]⟩] 9)
 have hG1:w.grownBy (w.alloc (.cells #[.string ⟨#[97,114,99,104]⟩,.string ⟨#[98,97,114,110]⟩,.string ⟨#[98,111,97,116]⟩,.string ⟨#[98,114,105,100,103,101]⟩,.string ⟨#[99,97,115,116,108,101]⟩,.string ⟨#[99,97,116]⟩,.string ⟨#[99,104,97,105,114]⟩,.string ⟨#[100,114,97,103,111,110]⟩,.string ⟨#[102,111,120]⟩,.string ⟨#[104,111,117,115,101]⟩] 9)) (some g):=grown_then (World.grownBy.refl w _) bel
 have kp:=fun (W:World) (h1:Cur W g B A c bs) (h2:OwnS W w.heap.size (w.heap.size+1) (some ⟨w.heap.size,0,none⟩) 10 drawNames)=>s_l01Pick drawNames (some ⟨w.heap.size,0,none⟩) 10 w.heap.size (w.heap.size+1) g B A c bs W h1 h2 (by decide) (by decide)
 have HKP:=hide kp
 clear kp
 go_enter Tryz.func133,Tryz.ntmps133
 go_wp2_with fail
 generalize w.alloc (.cells #[.string ⟨#[97,114,99,104]⟩,.string ⟨#[98,97,114,110]⟩,.string ⟨#[98,111,97,116]⟩,.string ⟨#[98,114,105,100,103,101]⟩,.string ⟨#[99,97,115,116,108,101]⟩,.string ⟨#[99,97,116]⟩,.string ⟨#[99,104,97,105,114]⟩,.string ⟨#[100,114,97,103,111,110]⟩,.string ⟨#[102,111,120]⟩,.string ⟨#[104,111,117,115,101]⟩] 9)=w1 at *
 refine (HKP.out w1 hC1 hO).mono ?_
 rintro e w2 ⟨nm,hnm,rfl,hC2,hg2⟩
 go_wp2
 go_ret
 exact ⟨nm,hnm,rfl,hC2,only_trans hG1 hg2⟩
set_option maxHeartbeats 12800000 in
theorem s_l38Workshop (g B:Nat) (A:Option Addr) (c:Nat) (bs:List Int) (w:World) (hC:Cur w g B A c bs) :
  Calls Tryz.prog 79 #[.pointer (some ⟨g,0,none⟩)] w (DrawnWork g B A c bs w):=by
 have hgw:=hC.lt
 have hlB:=hC.lo
 have C_:=hC
 have G_:=World.grownBy.refl w (some g)
 clear hC
 go_enter Tryz.func79,Tryz.ntmps79
 go_wp2_with fail
 generalize e_:(World.alloc _ _)=w1
 symm at e_
 have z_:Below w.heap.size w w1:=by rw [e_];exact bel
 have k_r:w1.heap[w.heap.size]?=some (.cells #[.int .i64 0,.int .i64 0,.slice none 0 0,.int .i64 0,.int .i64 0,.slice none 0 0,.slice none 0 0,.slice none 0 0,.slice none 0 0,.int .i64 0] 33 (0,0)):=by rw [e_];exact (blk_new_at _ _ (by simp))
 replace C_:Cur w1 g B A c bs:=by rw [e_];exact (C_.alloc _)
 replace G_:w.grownBy w1 (some g):=grown_then G_ z_
 have s_w1:w.heap.size≤w1.heap.size:=by rw [e_];simp [World.setCell];try omega
 obtain ⟨br,eb_⟩:∃ x,x=w.heap.size:=⟨_,rfl⟩
 rw [← eb_] at k_r
 have l_r:w.heap.size≤br:=by omega
 have eb_r:=eb_;clear eb_
 clear e_ z_
 try rw [← eb_r]
 clear eb_r
 refine (s_l37Draft g B A c bs w1 C_).mono ?_
 rintro e w2 ⟨d1,f1,ss1,d2,f2,ss2,st,A1,c1,A2,c2,A3,c3,hdok,hdz,hst,rfl,o_D,C2_,g_⟩
 replace k_r:=C_.blk_keep k_r (by omega) g_
 replace G_:=only_trans G_ g_
 have s_w2:=g_.size
 clear C_ g_
 have C_:=C2_;clear C2_
 have o_D:=o_D.wide (show w.heap.size≤_ from by omega) (Nat.le_refl _)
 have HDO:=Lib.hid hdok
 have HDZ:=hide hdz
 clear hdok hdz
 go_wp2_with fail
 have hO5:OwnN (w2.alloc (.cells #[.int .i64 0,.int .i64 1,.int .i64 30,.int .i64 200,.int .i64 5000] 3)) w2.heap.size (w2.heap.size+1) (some ⟨w2.heap.size,0,none⟩) 5 [0,1,30,200,5000] :=
  ⟨World.ownsRow_lit w2 (base:=w2.heap.size) (e:=3) (size:=1) #[.int .i64 0,.int .i64 1,.int .i64 30,.int .i64 200,.int .i64 5000] 5 (Nat.le_refl _) (by unfold maxLen;omega) rfl,fun k hk=>by simp [Value.ownBlock] at hk;omega⟩
 have q_r:=blk_lt k_r
 generalize e_:(World.alloc _ _)=w3
 symm at e_
 have hX_:Boxy w2 w3:=by rw [e_];exact boxy
 have z_:Below w.heap.size w2 w3:=by rw [e_];exact bel
 replace k_r:=hkw e_ (blk_alloc k_r _)
 replace o_D:=o_D.boxy hX_
 replace C_:Cur w3 g B A c bs:=by rw [e_];exact (C_.alloc _)
 replace G_:w.grownBy w3 (some g):=grown_then G_ z_
 have s_w3:w2.heap.size≤w3.heap.size:=by rw [e_];simp [World.setCell];try omega
 rw [← e_] at hO5
 clear e_ hX_ z_ q_r
 obtain ⟨bm,hbm⟩:∃ x,x=w2.heap.size:=⟨_,rfl⟩
 rw [← hbm] at hO5 ⊢
 clear hbm
 refine (s_l01PickInt [0,1,30,200,5000] (some ⟨bm,0,none⟩) 5 bm (bm+1) g B A c bs w3 C_ hO5 (by decide) (by decide)).mono ?_
 rintro e w4 ⟨m,hm,rfl,C2_,g_⟩
 replace k_r:=C_.blk_keep k_r (by omega) g_
 replace o_D:=o_D.boxy (C_.boxy g_)
 replace G_:=only_trans G_ g_
 have s_w4:=g_.size
 clear C_ g_
 have C_:=C2_;clear C2_
 have hm0:0≤m∧m≤5000:=by
  simp at hm
  omega
 clear hm
 go_wp2_with fail
 have q_r:=blk_lt k_r
 generalize e_:(World.alloc _ _)=w5
 symm at e_
 have hX_:Boxy w4 w5:=by rw [e_];exact boxy
 have z_:Below w.heap.size w4 w5:=by rw [e_];exact bel
 replace k_r:=hkw e_ (blk_alloc k_r _)
 have k_x:w5.heap[w4.heap.size]?=some (.cells #[.int .i64 d1,.int .i64 f1,.slice A1 ss1.length c1,.int .i64 d2,.int .i64 f2,.slice A2 ss2.length c2,.slice A3 st.length c3,.slice none 0 0,.slice none 0 0,.int .i64 m] 33 (0,0)):=by rw [e_];exact (blk_new_at _ _ (by simp))
 replace o_D:=o_D.boxy hX_
 replace C_:Cur w5 g B A c bs:=by rw [e_];exact (C_.alloc _)
 replace G_:w.grownBy w5 (some g):=grown_then G_ z_
 have s_w5:w4.heap.size≤w5.heap.size:=by rw [e_];simp [World.setCell];try omega
 obtain ⟨bx,eb_⟩:∃ x,x=w4.heap.size:=⟨_,rfl⟩
 rw [← eb_] at k_x
 have l_x:w.heap.size≤bx:=by omega
 have d_rx:br<bx:=by omega
 have eb_x:=eb_;clear eb_
 clear e_ hX_ z_ q_r
 try rw [← eb_x]
 clear eb_x
 refine (s_l01Below 3 g B A c bs w5 C_ (by omega) (by omega)).mono ?_
 rintro e w6 ⟨n0,rfl,hn00,hn01,C2_,g_⟩
 replace k_r:=C_.blk_keep k_r (by omega) g_
 replace k_x:=C_.blk_keep k_x (by omega) g_
 replace o_D:=o_D.boxy (C_.boxy g_)
 replace G_:=only_trans G_ g_
 have s_w6:=g_.size
 clear C_ g_
 have C_:=C2_;clear C2_
 obtain ⟨n,rfl⟩:∃ n:Nat,n0=n:=⟨n0.toNat,by omega⟩
 go_wp2
 go_loopw [4] (fun q wr=>∃ (j np:Nat) (d1 f1:Int) (ss1:List ByteArray) (d2 f2:Int) (ss2:List ByteArray) (st:List PStep) (P:List PItem) (pp:List PPaper) (m:Int) (A1:Option Addr) (c1:Nat) (A2:Option Addr) (c2:Nat) (A3:Option Addr) (c3:Nat) (A4:Option Addr) (c4:Nat) (A5:Option Addr) (c5:Nat),j+np≤2∧q=.int .i64 (j:Int)∧Hid (DrewW ⟨⟨d1,f1,ss1,d2,f2,ss2,st⟩,P,pp,m⟩ np 0)∧wr.heap[bx]?=some (.cells #[.int .i64 d1,.int .i64 f1,.slice A1 ss1.length c1,.int .i64 d2,.int .i64 f2,.slice A2 ss2.length c2,.slice A3 st.length c3,.slice A4 P.length c4,.slice A5 pp.length c5,.int .i64 m] 33 (0,0))∧wr.heap[br]?=some (.cells #[.int .i64 0,.int .i64 0,.slice none 0 0,.int .i64 0,.int .i64 0,.slice none 0 0,.slice none 0 0,.slice none 0 0,.slice none 0 0,.int .i64 0] 33 (0,0))∧OwnW wr w.heap.size wr.heap.size A1 c1 A2 c2 A3 c3 A4 c4 A5 c5 ⟨d1,f1,ss1,d2,f2,ss2,st⟩ P pp∧Cur wr g B A c bs∧w.grownBy wr (some g)) (fun q _=>(intOf q).toNat)
 case atStart=>exact ⟨n,0,d1,f1,ss1,d2,f2,ss2,st,[],[],m,A1,c1,A2,c2,A3,c3,none,0,none,0,by omega,rfl,DrewW.first HDO.out HDZ.out hst hm0.1 hm0.2,k_x,k_r,(OwnW.first o_D (by omega)).wide (Nat.le_refl _) (by omega),C_,G_⟩
 case round =>
  clear k_x k_r o_D C_ G_ HDO HDZ hst hm0
  obtain ⟨j,np,d1,f1,ss1,d2,f2,ss2,st,P,pp,m,A1,c1,A2,c2,A3,c3,A4,c4,A5,c5,hj,rfl,HW,k_x,k_r,o_W,C_,G_⟩:=hrel
  by_cases h0:0<j
  ·obtain ⟨x0,x1,x2,x3,x4,x5,x6,x7,x8,x9,xl⟩:=blk10 k_x
   go_wp2
   have k0:∀ (k n:Int) (W:World),k≤2→OwnW W w.heap.size W.heap.size A1 c1 A2 c2 A3 c3 A4 c4 A5 c5 ⟨d1,f1,ss1,d2,f2,ss2,st⟩ P pp→Calls Tryz.prog 131 #[.agg #[.int .i64 d1,.int .i64 f1,.slice A1 ss1.length c1,.int .i64 d2,.int .i64 f2,.slice A2 ss2.length c2,.slice A3 st.length c3,.slice A4 P.length c4,.slice A5 pp.length c5,.int .i64 m],.int .i64 k,.int .i64 n] W fun e w'=>∃ (e1 g1:Int) (ts1:List ByteArray) (e2 g2:Int) (ts2:List ByteArray) (tt:List PStep) (Q:List PItem) (qq:List PPaper) (mm:Int) (B1:Option Addr) (b1:Nat) (B2:Option Addr) (b2:Nat) (B3:Option Addr) (b3:Nat) (B4:Option Addr) (b4:Nat) (B5:Option Addr) (b5:Nat) (ok:Bool),Hid (DrewW ⟨⟨e1,g1,ts1,e2,g2,ts2,tt⟩,Q,qq,mm⟩ (np+1) 0)∧e=.returned (.tuple #[.agg #[.int .i64 e1,.int .i64 g1,.slice B1 ts1.length b1,.int .i64 e2,.int .i64 g2,.slice B2 ts2.length b2,.slice B3 tt.length b3,.slice B4 Q.length b4,.slice B5 qq.length b5,.int .i64 mm],.bool ok])∧OwnW w' W.heap.size w'.heap.size B1 b1 B2 b2 B3 b3 B4 b4 B5 b5 ⟨e1,g1,ts1,e2,g2,ts2,tt⟩ Q qq∧Below W.heap.size W w':=by
    intro k n W hyp h
    refine (s_BuyPaper d1 f1 ss1 d2 f2 ss2 st P pp m k n W.heap.size A1 A2 A3 A4 A5 c1 c2 c3 c4 c5 W (h.rd (HW.out.z.more (by omega))) (Nat.le_refl _) HW.out.z).mono ?_
    rintro e w' ⟨B1,b1,B2,b2,B3,b3,B4,b4,B5,b5,rfl,ho,hb⟩
    exact ⟨_,_,_,_,_,_,_,_,_,_,B1,b1,B2,b2,B3,b3,B4,b4,B5,b5,_,HW.out.buy n hyp (by omega),rfl,ho,hb⟩
   have HB:=hide k0
   clear k0
   have C0:Cur wr.drew g B A c bs:=C_.drew
   have O0:OwnW wr.drew w.heap.size wr.heap.size A1 c1 A2 c2 A3 c3 A4 c4 A5 c5 ⟨d1,f1,ss1,d2,f2,ss2,st⟩ P pp:=o_W.drew
   have kx0:wr.drew.heap[bx]?=some (.cells #[.int .i64 d1,.int .i64 f1,.slice A1 ss1.length c1,.int .i64 d2,.int .i64 f2,.slice A2 ss2.length c2,.slice A3 st.length c3,.slice A4 P.length c4,.slice A5 pp.length c5,.int .i64 m] 33 (0,0)):=k_x
   have kr0:wr.drew.heap[br]?=some (.cells #[.int .i64 0,.int .i64 0,.slice none 0 0,.int .i64 0,.int .i64 0,.slice none 0 0,.slice none 0 0,.slice none 0 0,.slice none 0 0,.int .i64 0] 33 (0,0)):=k_r
   have G0:w.grownBy wr.drew (some g):=only_trans G_ ⟨rfl,rfl,rfl,Nat.le_refl _,fun _ _ _=>rfl⟩
   have hbxw:=blk_lt k_x
   have hsd:wr.drew.heap.size=wr.heap.size:=rfl
   have hgws:=G_.size
   have hgD:g<wr.heap.size:=C_.lt
   go_region_with (first
    |(go_at_call_of 39 (Value.int .i64 3);refine (s_l01Below 3 g B A c bs _ C0 (by omega) (by omega)).mono ?_;rintro e w6 ⟨p,rfl,hp0,hp1,C6,g6⟩;(have k6:=C0.blk_keep kx0 (show bx≠g by omega) g6);(have kr6:=C0.blk_keep kr0 (show br≠g by omega) g6);(have G6:=only_trans G0 g6);obtain ⟨y0,y1,y2,y3,y4,y5,y6,y7,y8,y9,yl⟩:=blk10 k6)
    |(go_at_call_of 39 (Value.int .i64 30);refine (s_l01Below 30 g B A c bs _ C6 (by omega) (by omega)).mono ?_;rintro e w7 ⟨p2,rfl,hq0,hq1,C7,g7⟩;(have k7:=C6.blk_keep k6 (show bx≠g by omega) g7);obtain ⟨v0,v1,v2,v3,v4,v5,v6,v7,v8,v9,vl⟩:=blk10 k7)
    |(go_at_call 131;(have hs6:=g6.size);(have hs7:=g7.size);refine (HB.out _ _ w7 ?_ (((O0.boxy (C0.boxy g6)).boxy (C6.boxy g7)).wide (Nat.le_refl _) (by omega))).mono ?_;omega;rintro e w9 ⟨e1,g1,ts1,e2,g2,ts2,tt,Q,qq,mm,B1,b1,B2,b2,B3,b3,B4,b4,B5,b5,ok,H9,rfl,o9,z9⟩;(have kn:=blk_next k7 z9);obtain ⟨t0,t1,t2,t3,t4,t5,t6,t7,t8,t9,tl⟩:=blk10 kn;obtain ⟨⟨u0,u1,u2,u3,u4⟩,u5,u6,u7,u8,u9⟩:=blk10f kn))
   all_goals (
    have hs9:=z9.size
    have k9:=blk_next k7 z9
    have kr9:=blk_next (C6.blk_keep kr6 (show br≠g by omega) g7) z9
    have C9:=C7.below z9
    have G9:w.grownBy w9 (some g):=grown_then (only_trans G6 g7) (z9.mono (by have:=G6.size;have:=g7.size;omega))
    go_wp2
    go_roundw
    case rel =>
     refine ⟨j - 1,np+1,e1,g1,ts1,e2,g2,ts2,tt,Q,qq,mm,B1,b1,B2,b2,B3,b3,B4,b4,B5,b5,by omega,by congr 1;omega,H9,blk10_set k9 _ _ _ _ _ _ _ _ _ _,blk_other10 kr9 (show br≠bx by omega) _ _ _ _ _ _ _ _ _ _,own10 o9 (boxAt_of k9) (by have:=G6.size;have:=g7.size;omega) (Nat.le_refl _) _ _ _ _ _ _ _ _ _ _,put10 C9 (show g≠bx by omega) (show B≤bx by omega) _ _ _ _ _ _ _ _ _ _,grown_then G9 (below10 (by omega) _ _ _ _ _ _ _ _ _ _)⟩
    case measure=>simp [intOf];omega)
  ·have hj0:j=0:=by omega
   subst hj0
   clear h0
   go_wp2_with fail
   refine (s_l01Below 3 g B A c bs wr C_ (by omega) (by omega)).mono ?_
   rintro e w5 ⟨n0,rfl,hn00,hn01,C5,g5⟩
   replace k_x:=C_.blk_keep k_x (show bx≠g by omega) g5
   replace k_r:=C_.blk_keep k_r (show br≠g by omega) g5
   have hs5:=g5.size
   replace o_W:=(o_W.boxy (C_.boxy g5)).wide (Nat.le_refl _) hs5
   replace G_:=only_trans G_ g5
   clear C_ g5
   obtain ⟨n,rfl⟩:∃ n:Nat,n0=n:=⟨n0.toNat,by omega⟩
   have HW2:=hide (HW.out.more (show np≤2 by omega) (Nat.le_refl 0))
   clear HW
   go_wp2
   go_loopw [5] (fun q wr=>∃ (j np:Nat) (d1 f1:Int) (ss1:List ByteArray) (d2 f2:Int) (ss2:List ByteArray) (st:List PStep) (P:List PItem) (pp:List PPaper) (m:Int) (A1:Option Addr) (c1:Nat) (A2:Option Addr) (c2:Nat) (A3:Option Addr) (c3:Nat) (A4:Option Addr) (c4:Nat) (A5:Option Addr) (c5:Nat),j+np≤2∧q=.int .i64 (j:Int)∧Hid (DrewW ⟨⟨d1,f1,ss1,d2,f2,ss2,st⟩,P,pp,m⟩ 2 np)∧wr.heap[bx]?=some (.cells #[.int .i64 d1,.int .i64 f1,.slice A1 ss1.length c1,.int .i64 d2,.int .i64 f2,.slice A2 ss2.length c2,.slice A3 st.length c3,.slice A4 P.length c4,.slice A5 pp.length c5,.int .i64 m] 33 (0,0))∧wr.heap[br]?=some (.cells #[.int .i64 0,.int .i64 0,.slice none 0 0,.int .i64 0,.int .i64 0,.slice none 0 0,.slice none 0 0,.slice none 0 0,.slice none 0 0,.int .i64 0] 33 (0,0))∧OwnW wr w.heap.size wr.heap.size A1 c1 A2 c2 A3 c3 A4 c4 A5 c5 ⟨d1,f1,ss1,d2,f2,ss2,st⟩ P pp∧Cur wr g B A c bs∧w.grownBy wr (some g)) (fun q _=>(intOf q).toNat)
   case atStart=>exact ⟨n,0,d1,f1,ss1,d2,f2,ss2,st,P,pp,m,A1,c1,A2,c2,A3,c3,A4,c4,A5,c5,by omega,rfl,HW2.out,k_x,k_r,o_W,C5,G_⟩
   case round =>
    clear k_x k_r o_W C5 G_ HW2
    obtain ⟨j,np,d1,f1,ss1,d2,f2,ss2,st,P,pp,m,A1,c1,A2,c2,A3,c3,A4,c4,A5,c5,hj,rfl,HW,k_x,k_r,o_W,C_,G_⟩:=hrel
    by_cases h0:0<j
    ·obtain ⟨x0,x1,x2,x3,x4,x5,x6,x7,x8,x9,xl⟩:=blk10 k_x
     go_wp2
     have k0:∀ (nm:ByteArray) (W:World),nm∈drawNames→OwnW W w.heap.size W.heap.size A1 c1 A2 c2 A3 c3 A4 c4 A5 c5 ⟨d1,f1,ss1,d2,f2,ss2,st⟩ P pp→Calls Tryz.prog 132 #[.agg #[.int .i64 d1,.int .i64 f1,.slice A1 ss1.length c1,.int .i64 d2,.int .i64 f2,.slice A2 ss2.length c2,.slice A3 st.length c3,.slice A4 P.length c4,.slice A5 pp.length c5,.int .i64 m],.string nm] W fun e w'=>∃ (e1 g1:Int) (ts1:List ByteArray) (e2 g2:Int) (ts2:List ByteArray) (tt:List PStep) (Q:List PItem) (qq:List PPaper) (mm:Int) (B1:Option Addr) (b1:Nat) (B2:Option Addr) (b2:Nat) (B3:Option Addr) (b3:Nat) (B4:Option Addr) (b4:Nat) (B5:Option Addr) (b5:Nat) (ok:Bool),Hid (DrewW ⟨⟨e1,g1,ts1,e2,g2,ts2,tt⟩,Q,qq,mm⟩ 2 (np+1))∧e=.returned (.tuple #[.agg #[.int .i64 e1,.int .i64 g1,.slice B1 ts1.length b1,.int .i64 e2,.int .i64 g2,.slice B2 ts2.length b2,.slice B3 tt.length b3,.slice B4 Q.length b4,.slice B5 qq.length b5,.int .i64 mm],.bool ok])∧OwnW w' W.heap.size w'.heap.size B1 b1 B2 b2 B3 b3 B4 b4 B5 b5 ⟨e1,g1,ts1,e2,g2,ts2,tt⟩ Q qq∧Below W.heap.size W w':=by
      intro nm W hyp h
      refine (s_KeepCard d1 f1 ss1 d2 f2 ss2 st P pp m nm W.heap.size A1 A2 A3 A4 A5 c1 c2 c3 c4 c5 W (h.rd (HW.out.z.more (by omega))) (Nat.le_refl _) HW.out.z (drawNames_size hyp)).mono ?_
      rintro e w' ⟨B1,b1,B2,b2,B3,b3,B4,b4,B5,b5,rfl,ho,hb⟩
      exact ⟨_,_,_,_,_,_,_,_,_,_,B1,b1,B2,b2,B3,b3,B4,b4,B5,b5,_,HW.out.keep hyp,rfl,ho,hb⟩
     have HB:=hide k0
     clear k0
     have C0:Cur wr.drew g B A c bs:=C_.drew
     have O0:OwnW wr.drew w.heap.size wr.heap.size A1 c1 A2 c2 A3 c3 A4 c4 A5 c5 ⟨d1,f1,ss1,d2,f2,ss2,st⟩ P pp:=o_W.drew
     have kx0:wr.drew.heap[bx]?=some (.cells #[.int .i64 d1,.int .i64 f1,.slice A1 ss1.length c1,.int .i64 d2,.int .i64 f2,.slice A2 ss2.length c2,.slice A3 st.length c3,.slice A4 P.length c4,.slice A5 pp.length c5,.int .i64 m] 33 (0,0)):=k_x
     have kr0:wr.drew.heap[br]?=some (.cells #[.int .i64 0,.int .i64 0,.slice none 0 0,.int .i64 0,.int .i64 0,.slice none 0 0,.slice none 0 0,.slice none 0 0,.slice none 0 0,.int .i64 0] 33 (0,0)):=k_r
     have G0:w.grownBy wr.drew (some g):=only_trans G_ ⟨rfl,rfl,rfl,Nat.le_refl _,fun _ _ _=>rfl⟩
     have hbxw:=blk_lt k_x
     have hsd:wr.drew.heap.size=wr.heap.size:=rfl
     have hgws:=G_.size
     have hgD:g<wr.heap.size:=C_.lt
     go_region_with (first
      |(go_at_call 133;refine (s_l35Name g B A c bs _ C0).mono ?_;rintro e w6 ⟨nm,hnm,rfl,C6,g6⟩;(have k6:=C0.blk_keep kx0 (show bx≠g by omega) g6);obtain ⟨y0,y1,y2,y3,y4,y5,y6,y7,y8,y9,yl⟩:=blk10 k6)
      |(go_at_call 132;(have hs6:=g6.size);refine (HB.out _ w6 ?_ ((O0.boxy (C0.boxy g6)).wide (Nat.le_refl _) (by omega))).mono ?_;exact hnm;rintro e w9 ⟨e1,g1,ts1,e2,g2,ts2,tt,Q,qq,mm,B1,b1,B2,b2,B3,b3,B4,b4,B5,b5,ok,H9,rfl,o9,z9⟩;(have kn:=blk_next k6 z9);obtain ⟨t0,t1,t2,t3,t4,t5,t6,t7,t8,t9,tl⟩:=blk10 kn;obtain ⟨⟨u0,u1,u2,u3,u4⟩,u5,u6,u7,u8,u9⟩:=blk10f kn))
     all_goals (
      have hs9:=z9.size
      have k9:=blk_next k6 z9
      have kr9:=blk_next (C0.blk_keep kr0 (show br≠g by omega) g6) z9
      have C9:=C6.below z9
      have G9:w.grownBy w9 (some g):=grown_then (only_trans G0 g6) (z9.mono (by have:=G0.size;have:=g6.size;omega))
      go_wp2
      go_roundw
      case rel =>
       refine ⟨j - 1,np+1,e1,g1,ts1,e2,g2,ts2,tt,Q,qq,mm,B1,b1,B2,b2,B3,b3,B4,b4,B5,b5,by omega,by congr 1;omega,H9,blk10_set k9 _ _ _ _ _ _ _ _ _ _,blk_other10 kr9 (show br≠bx by omega) _ _ _ _ _ _ _ _ _ _,own10 o9 (boxAt_of k9) (by have:=G0.size;have:=g6.size;omega) (Nat.le_refl _) _ _ _ _ _ _ _ _ _ _,put10 C9 (show g≠bx by omega) (show B≤bx by omega) _ _ _ _ _ _ _ _ _ _,grown_then G9 (below10 (by omega) _ _ _ _ _ _ _ _ _ _)⟩
      case measure=>simp [intOf];omega)
    ·have hj0:j=0:=by omega
     subst hj0
     obtain ⟨x0,x1,x2,x3,x4,x5,x6,x7,x8,x9,xl⟩:=blk10 k_x
     obtain ⟨y0,y1,y2,y3,y4,y5,y6,y7,y8,y9,yl⟩:=blk10 k_r
     obtain ⟨⟨u0,u1,u2,u3,u4⟩,u5,u6,u7,u8,u9⟩:=blk10f k_r
     go_wp2
     refine bodyPost_ret (v:=.agg #[.int .i64 d1,.int .i64 f1,.slice A1 ss1.length c1,.int .i64 d2,.int .i64 f2,.slice A2 ss2.length c2,.slice A3 st.length c3,.slice A4 P.length c4,.slice A5 pp.length c5,.int .i64 m]) (by simp [results,Tryz.results79,go_sem, *]) rfl ?_
     exact ⟨d1,f1,ss1,d2,f2,ss2,st,P,pp,m,A1,c1,A2,c2,A3,c3,A4,c4,A5,c5,HW.out.more (Nat.le_refl _) (by omega),rfl,own10 o_W (boxAt_of k_r) (Nat.le_refl _) (Nat.le_refl _) _ _ _ _ _ _ _ _ _ _,put10 C_ (show g≠br by omega) (show B≤br by omega) _ _ _ _ _ _ _ _ _ _,grown_then G_ (below10 (by omega) _ _ _ _ _ _ _ _ _ _)⟩
set_option maxHeartbeats 6400000 in
theorem s_l39Act (g B:Nat) (A:Option Addr) (c:Nat) (bs:List Int) (w:World) (hC:Cur w g B A c bs) :
  Calls Tryz.prog 80 #[.pointer (some ⟨g,0,none⟩)] w fun e w'=>∃ a:PAct,e=.returned (.agg #[.int .i64 a.k,.int .i64 a.a,.int .i64 a.b])∧Cur w' g B A c bs∧w.grownBy w' (some g):=by
 have hgw:=hC.lt
 have hlB:=hC.lo
 have C_:=hC
 have G_:=World.grownBy.refl w (some g)
 clear hC
 go_enter Tryz.func80,Tryz.ntmps80
 go_wp2_with fail
 generalize e_:(World.alloc _ _)=w1
 symm at e_
 have z_:Below w.heap.size w w1:=by rw [e_];exact bel
 have k_r:w1.heap[w.heap.size]?=some (.cells #[.int .i64 0,.int .i64 0,.int .i64 0] 61 (0,0)):=by rw [e_];exact (blk_new_at _ _ (by simp))
 replace C_:Cur w1 g B A c bs:=by rw [e_];exact (C_.alloc _)
 replace G_:w.grownBy w1 (some g):=grown_then G_ z_
 have s_w1:w.heap.size≤w1.heap.size:=by rw [e_];simp [World.setCell];try omega
 obtain ⟨br,eb_⟩:∃ x,x=w.heap.size:=⟨_,rfl⟩
 rw [← eb_] at k_r
 have l_r:w.heap.size≤br:=by omega
 have eb_r:=eb_;clear eb_
 clear e_ z_
 try rw [← eb_r]
 clear eb_r
 refine (s_l01Below 10 g B A c bs w1 C_ (by omega) (by omega)).mono ?_
 rintro e w2 ⟨x,rfl,hx0,hx1,C2_,g_⟩
 replace k_r:=C_.blk_keep k_r (by omega) g_
 replace G_:=only_trans G_ g_
 have s_w2:=g_.size
 clear C_ g_
 have C_:=C2_;clear C2_
 rcases (show x=0∨x=1∨x=2∨x=3∨x=4∨x=5∨x=6∨x=7∨x=8∨x=9 by omega) with rfl|rfl|rfl|rfl|rfl|rfl|rfl|rfl|rfl|rfl
 ·skip
  go_wp2_with fail
  refine (s_l01Below 6 g B A c bs w2 C_ (by omega) (by omega)).mono ?_
  rintro e w3 ⟨y,rfl,hy0,hy1,C2_,g_⟩
  replace k_r:=C_.blk_keep k_r (by omega) g_
  replace G_:=only_trans G_ g_
  have s_w3:=g_.size
  clear C_ g_
  have C_:=C2_;clear C2_
  go_wp2_with fail
  refine (s_l01Below 7 g B A c bs w3 C_ (by omega) (by omega)).mono ?_
  rintro e w4 ⟨z,rfl,hz0,hz1,C2_,g_⟩
  replace k_r:=C_.blk_keep k_r (by omega) g_
  replace G_:=only_trans G_ g_
  have s_w4:=g_.size
  clear C_ g_
  have C_:=C2_;clear C2_
  obtain ⟨x0r,x1r,x2r,xlr⟩:=blk3 k_r
  have f0r:=(blk_cells k_r 0).2
  have f1r:=(blk_cells k_r 1).2
  have f2r:=(blk_cells k_r 2).2
  go_wp2
  refine bodyPost_ret (v:=.agg #[.int .i64 1,.int .i64 y,.int .i64 (1+z)]) (by simp [results,Tryz.results80,go_sem, *]) rfl ?_
  exact ⟨⟨1,y,1+z⟩,rfl,(by repeat (first|exact C_|(refine Cur.put_other ?_ (by simp;omega) (by simp;omega) _))),grown_then G_ bel⟩
 ·skip
  go_wp2_with fail
  refine (s_l01Below 6 g B A c bs w2 C_ (by omega) (by omega)).mono ?_
  rintro e w3 ⟨y,rfl,hy0,hy1,C2_,g_⟩
  replace k_r:=C_.blk_keep k_r (by omega) g_
  replace G_:=only_trans G_ g_
  have s_w3:=g_.size
  clear C_ g_
  have C_:=C2_;clear C2_
  go_wp2_with fail
  refine (s_l01Below 7 g B A c bs w3 C_ (by omega) (by omega)).mono ?_
  rintro e w4 ⟨z,rfl,hz0,hz1,C2_,g_⟩
  replace k_r:=C_.blk_keep k_r (by omega) g_
  replace G_:=only_trans G_ g_
  have s_w4:=g_.size
  clear C_ g_
  have C_:=C2_;clear C2_
  obtain ⟨x0r,x1r,x2r,xlr⟩:=blk3 k_r
  have f0r:=(blk_cells k_r 0).2
  have f1r:=(blk_cells k_r 1).2
  have f2r:=(blk_cells k_r 2).2
  go_wp2
  refine bodyPost_ret (v:=.agg #[.int .i64 1,.int .i64 y,.int .i64 (1+z)]) (by simp [results,Tryz.results80,go_sem, *]) rfl ?_
  exact ⟨⟨1,y,1+z⟩,rfl,(by repeat (first|exact C_|(refine Cur.put_other ?_ (by simp;omega) (by simp;omega) _))),grown_then G_ bel⟩
 ·skip
  go_wp2_with fail
  refine (s_l01Below 6 g B A c bs w2 C_ (by omega) (by omega)).mono ?_
  rintro e w3 ⟨y,rfl,hy0,hy1,C2_,g_⟩
  replace k_r:=C_.blk_keep k_r (by omega) g_
  replace G_:=only_trans G_ g_
  have s_w3:=g_.size
  clear C_ g_
  have C_:=C2_;clear C2_
  go_wp2_with fail
  refine (s_l01Below 7 g B A c bs w3 C_ (by omega) (by omega)).mono ?_
  rintro e w4 ⟨z,rfl,hz0,hz1,C2_,g_⟩
  replace k_r:=C_.blk_keep k_r (by omega) g_
  replace G_:=only_trans G_ g_
  have s_w4:=g_.size
  clear C_ g_
  have C_:=C2_;clear C2_
  obtain ⟨x0r,x1r,x2r,xlr⟩:=blk3 k_r
  have f0r:=(blk_cells k_r 0).2
  have f1r:=(blk_cells k_r 1).2
  have f2r:=(blk_cells k_r 2).2
  go_wp2
  refine bodyPost_ret (v:=.agg #[.int .i64 1,.int .i64 y,.int .i64 (1+z)]) (by simp [results,Tryz.results80,go_sem, *]) rfl ?_
  exact ⟨⟨1,y,1+z⟩,rfl,(by repeat (first|exact C_|(refine Cur.put_other ?_ (by simp;omega) (by simp;omega) _))),grown_then G_ bel⟩
 ·skip
  go_wp2_with fail
  refine (s_l01Below 6 g B A c bs w2 C_ (by omega) (by omega)).mono ?_
  rintro e w3 ⟨y,rfl,hy0,hy1,C2_,g_⟩
  replace k_r:=C_.blk_keep k_r (by omega) g_
  replace G_:=only_trans G_ g_
  have s_w3:=g_.size
  clear C_ g_
  have C_:=C2_;clear C2_
  go_wp2_with fail
  refine (s_l01Below 7 g B A c bs w3 C_ (by omega) (by omega)).mono ?_
  rintro e w4 ⟨z,rfl,hz0,hz1,C2_,g_⟩
  replace k_r:=C_.blk_keep k_r (by omega) g_
  replace G_:=only_trans G_ g_
  have s_w4:=g_.size
  clear C_ g_
  have C_:=C2_;clear C2_
  obtain ⟨x0r,x1r,x2r,xlr⟩:=blk3 k_r
  have f0r:=(blk_cells k_r 0).2
  have f1r:=(blk_cells k_r 1).2
  have f2r:=(blk_cells k_r 2).2
  go_wp2
  refine bodyPost_ret (v:=.agg #[.int .i64 2,.int .i64 y,.int .i64 (1+z)]) (by simp [results,Tryz.results80,go_sem, *]) rfl ?_
  exact ⟨⟨2,y,1+z⟩,rfl,(by repeat (first|exact C_|(refine Cur.put_other ?_ (by simp;omega) (by simp;omega) _))),grown_then G_ bel⟩
 ·skip
  obtain ⟨x0r,x1r,x2r,xlr⟩:=blk3 k_r
  have f0r:=(blk_cells k_r 0).2
  have f1r:=(blk_cells k_r 1).2
  have f2r:=(blk_cells k_r 2).2
  go_wp2
  refine bodyPost_ret (v:=.agg #[.int .i64 3,.int .i64 0,.int .i64 0]) (by simp [results,Tryz.results80,go_sem, *]) rfl ?_
  exact ⟨⟨3,0,0⟩,rfl,(by repeat (first|exact C_|(refine Cur.put_other ?_ (by simp;omega) (by simp;omega) _))),grown_then G_ bel⟩
 ·skip
  go_wp2_with fail
  refine (s_l01Below 3 g B A c bs w2 C_ (by omega) (by omega)).mono ?_
  rintro e w3 ⟨y,rfl,hy0,hy1,C2_,g_⟩
  replace k_r:=C_.blk_keep k_r (by omega) g_
  replace G_:=only_trans G_ g_
  have s_w3:=g_.size
  clear C_ g_
  have C_:=C2_;clear C2_
  go_wp2_with fail
  refine (s_l01Below 20 g B A c bs w3 C_ (by omega) (by omega)).mono ?_
  rintro e w4 ⟨z,rfl,hz0,hz1,C2_,g_⟩
  replace k_r:=C_.blk_keep k_r (by omega) g_
  replace G_:=only_trans G_ g_
  have s_w4:=g_.size
  clear C_ g_
  have C_:=C2_;clear C2_
  obtain ⟨x0r,x1r,x2r,xlr⟩:=blk3 k_r
  have f0r:=(blk_cells k_r 0).2
  have f1r:=(blk_cells k_r 1).2
  have f2r:=(blk_cells k_r 2).2
  go_wp2
  refine bodyPost_ret (v:=.agg #[.int .i64 4,.int .i64 y,.int .i64 (1+z)]) (by simp [results,Tryz.results80,go_sem, *]) rfl ?_
  exact ⟨⟨4,y,1+z⟩,rfl,(by repeat (first|exact C_|(refine Cur.put_other ?_ (by simp;omega) (by simp;omega) _))),grown_then G_ bel⟩
 ·skip
  go_wp2_with fail
  refine (s_l01Below 3 g B A c bs w2 C_ (by omega) (by omega)).mono ?_
  rintro e w3 ⟨y,rfl,hy0,hy1,C2_,g_⟩
  replace k_r:=C_.blk_keep k_r (by omega) g_
  replace G_:=only_trans G_ g_
  have s_w3:=g_.size
  clear C_ g_
  have C_:=C2_;clear C2_
  obtain ⟨x0r,x1r,x2r,xlr⟩:=blk3 k_r
  have f0r:=(blk_cells k_r 0).2
  have f1r:=(blk_cells k_r 1).2
  have f2r:=(blk_cells k_r 2).2
  go_wp2
  refine bodyPost_ret (v:=.agg #[.int .i64 5,.int .i64 y,.int .i64 0]) (by simp [results,Tryz.results80,go_sem, *]) rfl ?_
  exact ⟨⟨5,y,0⟩,rfl,(by repeat (first|exact C_|(refine Cur.put_other ?_ (by simp;omega) (by simp;omega) _))),grown_then G_ bel⟩
 ·skip
  go_wp2_with fail
  refine (s_l01Below 3 g B A c bs w2 C_ (by omega) (by omega)).mono ?_
  rintro e w3 ⟨y,rfl,hy0,hy1,C2_,g_⟩
  replace k_r:=C_.blk_keep k_r (by omega) g_
  replace G_:=only_trans G_ g_
  have s_w3:=g_.size
  clear C_ g_
  have C_:=C2_;clear C2_
  go_wp2_with fail
  refine (s_l01Below 12 g B A c bs w3 C_ (by omega) (by omega)).mono ?_
  rintro e w4 ⟨z,rfl,hz0,hz1,C2_,g_⟩
  replace k_r:=C_.blk_keep k_r (by omega) g_
  replace G_:=only_trans G_ g_
  have s_w4:=g_.size
  clear C_ g_
  have C_:=C2_;clear C2_
  obtain ⟨x0r,x1r,x2r,xlr⟩:=blk3 k_r
  have f0r:=(blk_cells k_r 0).2
  have f1r:=(blk_cells k_r 1).2
  have f2r:=(blk_cells k_r 2).2
  go_wp2
  refine bodyPost_ret (v:=.agg #[.int .i64 6,.int .i64 y,.int .i64 (1+z)]) (by simp [results,Tryz.results80,go_sem, *]) rfl ?_
  exact ⟨⟨6,y,1+z⟩,rfl,(by repeat (first|exact C_|(refine Cur.put_other ?_ (by simp;omega) (by simp;omega) _))),grown_then G_ bel⟩
 ·skip
  go_wp2_with fail
  refine (s_l01Below 3 g B A c bs w2 C_ (by omega) (by omega)).mono ?_
  rintro e w3 ⟨y,rfl,hy0,hy1,C2_,g_⟩
  replace k_r:=C_.blk_keep k_r (by omega) g_
  replace G_:=only_trans G_ g_
  have s_w3:=g_.size
  clear C_ g_
  have C_:=C2_;clear C2_
  obtain ⟨x0r,x1r,x2r,xlr⟩:=blk3 k_r
  have f0r:=(blk_cells k_r 0).2
  have f1r:=(blk_cells k_r 1).2
  have f2r:=(blk_cells k_r 2).2
  go_wp2
  refine bodyPost_ret (v:=.agg #[.int .i64 7,.int .i64 y,.int .i64 0]) (by simp [results,Tryz.results80,go_sem, *]) rfl ?_
  exact ⟨⟨7,y,0⟩,rfl,(by repeat (first|exact C_|(refine Cur.put_other ?_ (by simp;omega) (by simp;omega) _))),grown_then G_ bel⟩
 ·skip
  obtain ⟨x0r,x1r,x2r,xlr⟩:=blk3 k_r
  have f0r:=(blk_cells k_r 0).2
  have f1r:=(blk_cells k_r 1).2
  have f2r:=(blk_cells k_r 2).2
  go_wp2
  refine bodyPost_ret (v:=.agg #[.int .i64 8,.int .i64 0,.int .i64 0]) (by simp [results,Tryz.results80,go_sem, *]) rfl ?_
  exact ⟨⟨8,0,0⟩,rfl,(by repeat (first|exact C_|(refine Cur.put_other ?_ (by simp;omega) (by simp;omega) _))),grown_then G_ bel⟩
theorem one_act (a:PAct):∀ u∈[Value.int .i64 a.k,.int .i64 a.a,.int .i64 a.b],u.oneCell'=true:=by intro u hu;simp at hu;rcases hu with rfl|rfl|rfl <;> rfl
theorem acts_snocD (l:List PAct) (a:PAct):l.flatMap actCells++[.int .i64 a.k,.int .i64 a.a,.int .i64 a.b]=(l++[a]).flatMap actCells:=by simp [actCells]
set_option maxHeartbeats 6400000 in
theorem s_l39List (g B:Nat) (A:Option Addr) (c:Nat) (bs:List Int) (w:World) (hC:Cur w g B A c bs) :
  Calls Tryz.prog 38 #[.pointer (some ⟨g,0,none⟩)] w fun e w'=>∃ (la:List PAct) (Aa:Option Addr) (ca:Nat),la.length≤13∧e=.returned (.slice Aa la.length ca)∧OwnA w' w.heap.size w'.heap.size Aa ca la∧Cur w' g B A c bs∧w.grownBy w' (some g):=by
 have hgw:=hC.lt
 have hlB:=hC.lo
 obtain ⟨i0,hi0,hz0,hz1,hz2⟩:=info_parts info_actCells
 go_enter Tryz.func38,Tryz.ntmps38
 go_wp2_with fail
 have hO0:(w.alloc (.cells #[] 61)).ownsRow w.heap.size 61 3 (.slice (some ⟨w.heap.size,0,none⟩) 0 0) 0 []:=World.ownsRow_made w #[] 0 (Nat.le_refl _) (by unfold maxLen;omega) rfl
 have C0:=hC.alloc (.cells #[] 61)
 have G0:w.grownBy (w.alloc (.cells #[] 61)) (some g):=grown_then (World.grownBy.refl w _) bel
 generalize w.alloc (.cells #[] 61)=w0 at *
 refine (s_l01Below 14 g B A c bs w0 C0 (by omega) (by omega)).mono ?_
 rintro e w1 ⟨n0,rfl,hn0,hn1,C_,g_⟩
 obtain ⟨n,rfl⟩:∃ n:Nat,n0=n:=⟨n0.toNat,by omega⟩
 have hO1:=own_boxy hO0 (by decide) (C0.boxy g_)
 have G_:=only_trans G0 g_
 clear C0 G0 g_ hO0 hC
 go_wp2
 go_loopw [3,5] (fun o q wr=>∃ (j N:Nat) (la:List PAct) (A':Option Addr) (c':Nat),j≤n∧(N≤j∧j≤N)∧q=.int .i64 (j:Int)∧o=.slice A' N c'∧Hid (la.length=N)∧wr.ownsRow w.heap.size 61 3 (.slice A' N c') N (la.flatMap actCells)∧Cur wr g B A c bs∧w.grownBy wr (some g)) (fun _ q _=>n - (intOf q).toNat)
 case atStart=>exact ⟨0,0,[],_,_,Nat.zero_le _,⟨Nat.le_refl _,Nat.le_refl _⟩,rfl,rfl,rfl,hO1,C_,G_⟩
 case round =>
  clear hO1 C_ G_
  obtain ⟨j,N,la,A',c',hj,⟨hNj1,hNj2⟩,rfl,rfl,HL,hown,C_,G_⟩:=hrel
  have hsw:=G_.size
  by_cases hlt:j<n
  ·go_wp2_with fail
   refine (s_l39Act g B A c bs wr C_).mono ?_
   rintro e w2 ⟨a,rfl,C2,g2⟩
   have ho2:=own_boxy hown (by decide) (C_.boxy g2)
   have G2:=only_trans G_ g2
   have hs2:=g2.size
   clear hown C_ G_ g2
   have hone:=one_act a
   have HONE:=hide hone
   clear hone
   obtain ⟨ak,hak⟩:∃ x,a.k=x:=⟨_,rfl⟩
   obtain ⟨aa,haa⟩:∃ x,a.a=x:=⟨_,rfl⟩
   obtain ⟨ab,hab⟩:∃ x,a.b=x:=⟨_,rfl⟩
   have HSN:=Lib.hid (acts_snocD la a)
   rw [hak,haa,hab] at HONE HSN ⊢
   clear hak haa hab
   go_upto_region 7 with fail
   have kA:=blk_new w2 (.cells #[.int .i64 ak,.int .i64 aa,.int .i64 ab] 61)
   have C3:=C2.alloc (.cells #[.int .i64 ak,.int .i64 aa,.int .i64 ab] 61)
   have ho3:=ho2.alloc (.cells #[.int .i64 ak,.int .i64 aa,.int .i64 ab] 61)
   have G3:w.grownBy (w2.alloc (.cells #[.int .i64 ak,.int .i64 aa,.int .i64 ab] 61)) (some g):=grown_then G2 bel
   generalize w2.alloc (.cells #[.int .i64 ak,.int .i64 aa,.int .i64 ab] 61)=w3 at *
   have hs3:=G3.size
   have hgO:=C3.lt
   obtain ⟨y0,y1,y2,yl⟩:=blk3 kA
   clear C2 ho2 G2
   have hn13:n≤13:=by omega
   go_wp2_with (at_builtin;refine wpList_append_N _ rfl (.tmp 17) (.tmp 19) _ rfl w.heap.size 61 i0 _ 3 24 Tryz.underlying34 hi0 hz0 hz1 hz2 rfl (by omega) (.slice A' N c') N _ rfl (ho3.alloc _) (w3.heap.size+1) (some ⟨w3.heap.size,0,none⟩) 1 1 [.int .i64 ak,.int .i64 aa,.int .i64 ab] rfl (reads_new w3 #[.int .i64 ak,.int .i64 aa,.int .i64 ab] 61 1 3 rfl) (unhide HONE) ?_ ?_ ?_ (N+1) _ rfl HSN.out ?_;(unfold maxLen;omega);omega;(simp;omega);intro A2 c2 w5 ho5 hb5)
   go_roundw
   case rel =>
    have C5:=(C3.alloc (.cells #[.int .i64 ak,.int .i64 aa,.int .i64 ab] 61)).below2 hb5 (by omega)
    exact ⟨j+1,N+1,la++[a],A2,c2,by omega,⟨by omega,by omega⟩,by go_num,rfl,by unfold Hid;simp [HL.out],ho5,C5,grown_then (grown_then G3 ((Below.refl _ _).alloc hs3 (.cells #[.int .i64 ak,.int .i64 aa,.int .i64 ab] 61))) hb5⟩
   case measure=>simp [intOf];omega
  ·have hjn:j=n:=by omega
   subst hjn
   go_wp2
   go_ret
   have hl:=HL.out
   subst hl
   exact ⟨la,A',c',by omega,rfl,OwnA.of hown (Nat.le_refl _),C_,G_⟩
theorem sample_work:workOk ⟨⟨3,4,sampleSS,3,4,sampleSS,[]⟩,[],[],100⟩=true:=work_first (draft_first (by decide)) (by omega) (by omega)
theorem sample_drew:DrewW (openW 3 4 sampleSS 100).1 2 2:=by
 rw [openW_yes sample_work]
 exact ⟨sample_work,⟨⟨sample_ok.1,sample_ok.1,Nat.zero_le _,sample_ok.2,sample_ok.2,(fun s hs=>by cases hs)⟩,⟨Nat.zero_le _,(fun x hx=>by cases hx)⟩,Nat.zero_le _⟩,Nat.zero_le _,Nat.zero_le _,(fun p hp=>by cases hp),Nat.zero_le _,(fun x hx=>by cases hx),by decide⟩
set_option maxHeartbeats 6400000 in
theorem s_l39Workshop (g B:Nat) (A:Option Addr) (c:Nat) (bs:List Int) (w:World) (hC:Cur w g B A c bs) :
  Calls Tryz.prog 37 #[.pointer (some ⟨g,0,none⟩)] w (DrawnWork g B A c bs w):=by
 have hgw:=hC.lt
 have hlB:=hC.lo
 have hsm:=sample_drew
 have kS:=fun (W:World)=>s_SampleWorkshop W
 generalize openW 3 4 sampleSS 100=R at hsm kS
 obtain ⟨⟨⟨d1,f1,ss1,d2,f2,ss2,st⟩,P,pp,m⟩,rb⟩:=R
 simp only at hsm kS
 have HSM:=hide hsm
 have HKS:=hide kS
 clear hsm kS
 have C_:=hC
 have G_:=World.grownBy.refl w (some g)
 clear hC
 go_enter Tryz.func37,Tryz.ntmps37
 go_wp2_with fail
 generalize e_:(World.alloc _ _)=w1
 symm at e_
 have z_:Below w.heap.size w w1:=by rw [e_];exact bel
 have k_r:w1.heap[w.heap.size]?=some (.cells #[.int .i64 0,.int .i64 0,.slice none 0 0,.int .i64 0,.int .i64 0,.slice none 0 0,.slice none 0 0,.slice none 0 0,.slice none 0 0,.int .i64 0] 33 (0,0)):=by rw [e_];exact (blk_new_at _ _ (by simp))
 replace C_:Cur w1 g B A c bs:=by rw [e_];exact (C_.alloc _)
 replace G_:w.grownBy w1 (some g):=grown_then G_ z_
 have s_w1:w.heap.size≤w1.heap.size:=by rw [e_];simp [World.setCell];try omega
 obtain ⟨br,eb_⟩:∃ x,x=w.heap.size:=⟨_,rfl⟩
 rw [← eb_] at k_r
 have l_r:w.heap.size≤br:=by omega
 have eb_r:=eb_;clear eb_
 clear e_ z_
 try rw [← eb_r]
 clear eb_r
 refine (s_l01Once 2 g B A c bs w1 C_ (by omega) (by omega)).mono ?_
 rintro e w2 ⟨b1,rfl,C2_,g_⟩
 replace k_r:=C_.blk_keep k_r (by omega) g_
 replace G_:=only_trans G_ g_
 have s_w2:=g_.size
 clear C_ g_
 have C_:=C2_;clear C2_
 cases b1
 ·skip
  go_wp2_with fail
  refine (s_l38Workshop g B A c bs w2 C_).mono ?_
  rintro e w3 ⟨d1,f1,ss1,d2,f2,ss2,st,P,pp,m,A1,c1,A2,c2,A3,c3,A4,c4,A5,c5,HW,rfl,o_W,C2_,g_⟩
  replace k_r:=C_.blk_keep k_r (by omega) g_
  replace G_:=only_trans G_ g_
  have s_w3:=g_.size
  clear C_ g_
  have C_:=C2_;clear C2_
  obtain ⟨x0r,x1r,x2r,x3r,x4r,x5r,x6r,x7r,x8r,x9r,xlr⟩:=blk10 k_r
  obtain ⟨⟨f0r,f1r,f2r,f3r,f4r⟩,f5r,f6r,f7r,f8r,f9r⟩:=blk10f k_r
  go_wp2
  refine bodyPost_ret (v:=.agg #[.int .i64 d1,.int .i64 f1,.slice A1 ss1.length c1,.int .i64 d2,.int .i64 f2,.slice A2 ss2.length c2,.slice A3 st.length c3,.slice A4 P.length c4,.slice A5 pp.length c5,.int .i64 m]) (by simp [results,Tryz.results37,go_sem, *]) rfl ?_
  exact ⟨_,_,_,_,_,_,_,_,_,_,A1,c1,A2,c2,A3,c3,A4,c4,A5,c5,HW,rfl,own10 o_W (boxAt_of k_r) (by omega) (Nat.le_refl _) _ _ _ _ _ _ _ _ _ _,put10 C_ (show g≠br by omega) (show B≤br by omega) _ _ _ _ _ _ _ _ _ _,grown_then G_ (below10 (by omega) _ _ _ _ _ _ _ _ _ _)⟩
 ·skip
  go_wp2_with fail
  refine (HKS.out w2).mono ?_
  rintro e w3 ⟨A1,c1,A2,c2,A3,c3,A4,c4,A5,c5,rfl,o_W,z_⟩
  replace k_r:=blk_next k_r z_
  replace C_:=C_.below z_
  replace G_:=grown_then G_ (z_.mono G_.size)
  have s_w3:=z_.size
  clear z_
  obtain ⟨x0r,x1r,x2r,x3r,x4r,x5r,x6r,x7r,x8r,x9r,xlr⟩:=blk10 k_r
  obtain ⟨⟨f0r,f1r,f2r,f3r,f4r⟩,f5r,f6r,f7r,f8r,f9r⟩:=blk10f k_r
  go_wp2
  refine bodyPost_ret (v:=.agg #[.int .i64 d1,.int .i64 f1,.slice A1 ss1.length c1,.int .i64 d2,.int .i64 f2,.slice A2 ss2.length c2,.slice A3 st.length c3,.slice A4 P.length c4,.slice A5 pp.length c5,.int .i64 m]) (by simp [results,Tryz.results37,go_sem, *]) rfl ?_
  exact ⟨_,_,_,_,_,_,_,_,_,_,A1,c1,A2,c2,A3,c3,A4,c4,A5,c5,HSM.out,rfl,own10 o_W (boxAt_of k_r) (by omega) (Nat.le_refl _) _ _ _ _ _ _ _ _ _ _,put10 C_ (show g≠br by omega) (show B≤br by omega) _ _ _ _ _ _ _ _ _ _,grown_then G_ (below10 (by omega) _ _ _ _ _ _ _ _ _ _)⟩
set_option maxHeartbeats 6400000 in
theorem s_DrawActs (B:Nat) (A:Option Addr) (c:Nat) (bs:List Int) (w:World) (hK:Code w B A bs) (hB:B≤w.heap.size) :
  Calls Tryz.prog 10 #[.slice A bs.length c] w fun e w'=>∃ (d1 f1:Int) (ss1:List ByteArray) (d2 f2:Int) (ss2:List ByteArray) (st:List PStep) (P:List PItem) (pp:List PPaper) (m:Int) (A1:Option Addr) (c1:Nat) (A2:Option Addr) (c2:Nat) (A3:Option Addr) (c3:Nat) (A4:Option Addr) (c4:Nat) (A5:Option Addr) (c5:Nat),∃ (la:List PAct) (Aa:Option Addr) (ca:Nat),DrewW ⟨⟨d1,f1,ss1,d2,f2,ss2,st⟩,P,pp,m⟩ 2 2∧la.length≤13∧e=.returned (.tuple #[.agg #[.int .i64 d1,.int .i64 f1,.slice A1 ss1.length c1,.int .i64 d2,.int .i64 f2,.slice A2 ss2.length c2,.slice A3 st.length c3,.slice A4 P.length c4,.slice A5 pp.length c5,.int .i64 m],.slice Aa la.length ca])∧OwnW w' w.heap.size w'.heap.size A1 c1 A2 c2 A3 c3 A4 c4 A5 c5 ⟨d1,f1,ss1,d2,f2,ss2,st⟩ P pp∧OwnA w' w.heap.size w'.heap.size Aa ca la∧Below w.heap.size w w':=by
 go_enter Tryz.func10,Tryz.ntmps10
 go_wp2_with fail
 have hkr0:=blk_new w (.cells #[.int .i64 0,.int .i64 0,.slice none 0 0,.int .i64 0,.int .i64 0,.slice none 0 0,.slice none 0 0,.slice none 0 0,.slice none 0 0,.int .i64 0] 33)
 have hb0:Below w.heap.size w (w.alloc (.cells #[.int .i64 0,.int .i64 0,.slice none 0 0,.int .i64 0,.int .i64 0,.slice none 0 0,.slice none 0 0,.slice none 0 0,.slice none 0 0,.int .i64 0] 33)):=bel
 have hs0:(w.alloc (.cells #[.int .i64 0,.int .i64 0,.slice none 0 0,.int .i64 0,.int .i64 0,.slice none 0 0,.slice none 0 0,.slice none 0 0,.slice none 0 0,.int .i64 0] 33)).heap.size=w.heap.size+1:=by simp
 generalize w.alloc (.cells #[.int .i64 0,.int .i64 0,.slice none 0 0,.int .i64 0,.int .i64 0,.slice none 0 0,.slice none 0 0,.slice none 0 0,.slice none 0 0,.int .i64 0] 33)=w0 at *
 refine (s_l01New B A c bs w0 (hK.below (hb0.mono hB)) (by omega)).mono ?_
 rintro e w1 ⟨rfl,C1,hb1⟩
 have k_r1:=blk_next hkr0 hb1
 have hbw1:Below w.heap.size w w1:=hb0.trans (hb1.mono (by omega))
 have hs1:=hb1.size
 obtain ⟨g,hg⟩:∃ x,x=w0.heap.size:=⟨_,rfl⟩
 rw [← hg] at C1 ⊢
 obtain ⟨br,hbr⟩:∃ x,x=w.heap.size:=⟨_,rfl⟩
 rw [← hbr] at k_r1 ⊢
 have hrg:br<g:=by omega
 have hwr:w.heap.size≤br:=by omega
 have hgl:=C1.lo
 have hgt:=C1.lt
 have hs2:w.heap.size≤w1.heap.size:=hbw1.size
 have hBr:B≤br:=by omega
 clear hkr0 hb0 hb1 hg hbr hs0 hs1
 go_wp2_with fail
 refine (s_l39Workshop g B A c bs w1 C1).mono ?_
 rintro e w2 ⟨d1,f1,ss1,d2,f2,ss2,st,P,pp,m,A1,c1,A2,c2,A3,c3,A4,c4,A5,c5,HW,rfl,o_W,C2,g2⟩
 have HWH:=hide HW
 clear HW
 have k_r2:=C1.blk_keep k_r1 (show br≠g by omega) g2
 have hbw2:Below w.heap.size w w2:=hbw1.trans (grown_below g2 (fun k hk=>by injection hk with hk;omega) hs2)
 have hs3:=g2.size
 clear C1 k_r1 g2 hbw1
 go_wp2
 have k_x3:=blk_new w2 (.cells #[.int .i64 d1,.int .i64 f1,.slice A1 ss1.length c1,.int .i64 d2,.int .i64 f2,.slice A2 ss2.length c2,.slice A3 st.length c3,.slice A4 P.length c4,.slice A5 pp.length c5,.int .i64 m] 33)
 have k_r3:=blk_alloc k_r2 (.cells #[.int .i64 d1,.int .i64 f1,.slice A1 ss1.length c1,.int .i64 d2,.int .i64 f2,.slice A2 ss2.length c2,.slice A3 st.length c3,.slice A4 P.length c4,.slice A5 pp.length c5,.int .i64 m] 33)
 have C3:=C2.alloc (.cells #[.int .i64 d1,.int .i64 f1,.slice A1 ss1.length c1,.int .i64 d2,.int .i64 f2,.slice A2 ss2.length c2,.slice A3 st.length c3,.slice A4 P.length c4,.slice A5 pp.length c5,.int .i64 m] 33)
 have o_W3:=o_W.alloc (.cells #[.int .i64 d1,.int .i64 f1,.slice A1 ss1.length c1,.int .i64 d2,.int .i64 f2,.slice A2 ss2.length c2,.slice A3 st.length c3,.slice A4 P.length c4,.slice A5 pp.length c5,.int .i64 m] 33)
 have hbw3:Below w.heap.size w (w2.alloc (.cells #[.int .i64 d1,.int .i64 f1,.slice A1 ss1.length c1,.int .i64 d2,.int .i64 f2,.slice A2 ss2.length c2,.slice A3 st.length c3,.slice A4 P.length c4,.slice A5 pp.length c5,.int .i64 m] 33)):=hbw2.alloc (by omega) _
 have hs4:(w2.alloc (.cells #[.int .i64 d1,.int .i64 f1,.slice A1 ss1.length c1,.int .i64 d2,.int .i64 f2,.slice A2 ss2.length c2,.slice A3 st.length c3,.slice A4 P.length c4,.slice A5 pp.length c5,.int .i64 m] 33)).heap.size=w2.heap.size+1:=by simp
 have hgt2:=C2.lt
 have hr2:=blk_lt k_r2
 generalize w2.alloc (.cells #[.int .i64 d1,.int .i64 f1,.slice A1 ss1.length c1,.int .i64 d2,.int .i64 f2,.slice A2 ss2.length c2,.slice A3 st.length c3,.slice A4 P.length c4,.slice A5 pp.length c5,.int .i64 m] 33)=w3 at *
 obtain ⟨bx,hbx⟩:∃ x,x=w2.heap.size:=⟨_,rfl⟩
 rw [← hbx] at k_x3 ⊢
 have hrx:br<bx:=by omega
 have hgx:g<bx:=by omega
 have hx3:bx<w3.heap.size:=by omega
 have hw23:w2.heap.size≤w3.heap.size:=by omega
 clear hbx hs4 C2 k_r2 o_W hbw2
 have C0:Cur w3.drew g B A c bs:=C3.drew
 have kx0:w3.drew.heap[bx]?=some (.cells #[.int .i64 d1,.int .i64 f1,.slice A1 ss1.length c1,.int .i64 d2,.int .i64 f2,.slice A2 ss2.length c2,.slice A3 st.length c3,.slice A4 P.length c4,.slice A5 pp.length c5,.int .i64 m] 33 (0,0)):=k_x3
 have kr0:w3.drew.heap[br]?=some (.cells #[.int .i64 0,.int .i64 0,.slice none 0 0,.int .i64 0,.int .i64 0,.slice none 0 0,.slice none 0 0,.slice none 0 0,.slice none 0 0,.int .i64 0] 33 (0,0)):=k_r3
 have O0:OwnW w3.drew w.heap.size w3.heap.size A1 c1 A2 c2 A3 c3 A4 c4 A5 c5 ⟨d1,f1,ss1,d2,f2,ss2,st⟩ P pp:=(o_W3.wide (by omega) hw23).drew
 have B0:Below w.heap.size w w3.drew:=hbw3.drew
 have hsd:w3.drew.heap.size=w3.heap.size:=rfl
 clear C3 o_W3 hbw3
 obtain ⟨x0,x1,x2,x3,x4,x5,x6,x7,x8,x9,xl⟩:=blk10 k_x3
 obtain ⟨y0,y1,y2,y3,y4,y5,y6,y7,y8,y9,yl⟩:=blk10 k_r3
 obtain ⟨⟨u0,u1,u2,u3,u4⟩,u5,u6,u7,u8,u9⟩:=blk10f k_r3
 go_region_with (first
  |(go_at_call 38;refine (s_l39List g B A c bs _ ?_).mono ?_;(first|(with_reducible exact C0)|exact put10 C0 (show g≠br by omega) hBr _ _ _ _ _ _ _ _ _ _);rintro e wa ⟨la,Aa,ca,hla,rfl,oA,Ca,ga⟩;first
    |((have kxa:=C0.blk_keep kx0 (show bx≠g by omega) ga);(have kra:=C0.blk_keep kr0 (show br≠g by omega) ga);(have OA:=(O0.boxy (C0.boxy ga)).wide (hi':=wa.heap.size) (Nat.le_refl _) (by have:=ga.size;omega));(have BA:=B0.trans (grown_below ga (fun k hk=>by injection hk with hk;omega) (by omega:w.heap.size≤w3.drew.heap.size)));(have hga:=ga.size);obtain ⟨v0,v1,v2,v3,v4,v5,v6,v7,v8,v9,vl⟩:=blk10 kxa;obtain ⟨q0,q1,q2,q3,q4,q5,q6,q7,q8,q9,ql⟩:=blk10 kra;obtain ⟨⟨t0,t1,t2,t3,t4⟩,t5,t6,t7,t8,t9⟩:=blk10f kra)
    |((have kxa:=(put10 C0 (show g≠br by omega) hBr _ _ _ _ _ _ _ _ _ _).blk_keep (blk_other10 kx0 (show bx≠br by omega) _ _ _ _ _ _ _ _ _ _) (show bx≠g by omega) ga);(have kra:=(put10 C0 (show g≠br by omega) hBr _ _ _ _ _ _ _ _ _ _).blk_keep (blk10_set kr0 (.int .i64 d1) (.int .i64 f1) (.slice A1 ss1.length c1) (.int .i64 d2) (.int .i64 f2) (.slice A2 ss2.length c2) (.slice A3 st.length c3) (.slice A4 P.length c4) (.slice A5 pp.length c5) (.int .i64 m)) (show br≠g by omega) ga);(have OA:=(((own10 O0 (boxAt_of kr0) (Nat.le_refl _) (Nat.le_refl _) _ _ _ _ _ _ _ _ _ _).boxy ((put10 C0 (show g≠br by omega) hBr _ _ _ _ _ _ _ _ _ _).boxy ga)).wide (hi':=wa.heap.size) (Nat.le_refl _) (ga.size)));(have BA:=(B0.trans (below10 hwr _ _ _ _ _ _ _ _ _ _)).trans (grown_below ga (fun k hk=>by injection hk with hk;omega) (by simp [World.setCell];omega)));(have hga:=ga.size);obtain ⟨q0,q1,q2,q3,q4,q5,q6,q7,q8,q9,ql⟩:=blk10 kra)))
 all_goals (go_wp2)
 all_goals (refine bodyPost_ret (v:=.tuple #[.agg #[.int .i64 d1,.int .i64 f1,.slice A1 ss1.length c1,.int .i64 d2,.int .i64 f2,.slice A2 ss2.length c2,.slice A3 st.length c3,.slice A4 P.length c4,.slice A5 pp.length c5,.int .i64 m],.slice Aa la.length ca]) (by simp [results,Tryz.results10,go_sem, *]) rfl ?_)
 all_goals (
  refine ⟨_,_,_,_,_,_,_,_,_,_,A1,c1,A2,c2,A3,c3,A4,c4,A5,c5,la,Aa,ca,unhide HWH,hla,rfl,?_⟩
  first
   |(with_reducible exact ⟨OA,oA.wide (by simp [World.setCell] at hga;omega) (Nat.le_refl _),BA⟩)
   |exact ⟨own10 OA (boxAt_of kra) (Nat.le_refl _) (Nat.le_refl _) _ _ _ _ _ _ _ _ _ _,(oA.boxy (w':=((((((((((wa.setCell ⟨br,0,none⟩ (.int .i64 d1)).setCell ⟨br,1,none⟩ (.int .i64 f1)).setCell ⟨br,2,none⟩ (.slice A1 ss1.length c1)).setCell ⟨br,3,none⟩ (.int .i64 d2)).setCell ⟨br,4,none⟩ (.int .i64 f2)).setCell ⟨br,5,none⟩ (.slice A2 ss2.length c2)).setCell ⟨br,6,none⟩ (.slice A3 st.length c3)).setCell ⟨br,7,none⟩ (.slice A4 P.length c4)).setCell ⟨br,8,none⟩ (.slice A5 pp.length c5)).setCell ⟨br,9,none⟩ (.int .i64 m))) (have hbq:=boxAt_of kra;boxy)).wide (by omega) (by simp [World.setCell]),BA.trans (below10 hwr _ _ _ _ _ _ _ _ _ _)⟩)
end Go.Proofs.YtlimlolciekimaaGreatDoor
