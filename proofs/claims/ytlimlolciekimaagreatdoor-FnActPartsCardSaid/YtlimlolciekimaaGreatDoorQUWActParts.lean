/- FnActParts: the walk. -/
import Derived.Deep.DeepCutAuto
import Derived.Deep.RegionHeld3
import Derived.Test.YtlimlolciekimaaGreatDoorRows
import Derived.Test.YtlimlolciekimaaGreatDoorQUax
import Derived.Test.YtlimlolciekimaaGreatDoorQUar
import Derived.Test.YtlimlolciekimaaGreatDoorQUas
import Derived.Test.YtlimlolciekimaaGreatDoorQUw
import Derived.Test.YtlimlolciekimaaGreatDoorQUx
import Derived.Test.YtlimlolciekimaaGreatDoorQUr
import Derived.Test.YtlimlolciekimaaGreatDoorQUl
import Derived.Test.YtlimlolciekimaaGreatDoorQUu
namespace Go.Proofs.YtlimlolciekimaaGreatDoor.fnActParts
set_option maxHeartbeats 1600000
open Go.ChangeShapes Go.WideShapes Go.ChangeAt Go.RowKit
set_option linter.unusedVariables false
set_option linter.unusedSimpArgs false
set_option maxRecDepth 10000
theorem acts_take {w:World} {B n k:Nat} {A:Option Addr} {la:List PAct} (h:Acts w B A n la) (hk:k≤n):Acts w B A k (la.take k):=by
 have hl:=h.len
 refine ⟨⟨?_,fun h0=>?_⟩,by have:=h.nb;omega⟩
 ·rw [flat_len actCells_len,List.length_take,Nat.min_eq_left (by omega)]
 ·obtain ⟨ad,e,hb,hc⟩:=h.rd.2 (by omega)
  refine ⟨ad,e,hb,fun j u hu=>hc j u ?_⟩
  have e2:la.flatMap actCells=(la.take k).flatMap actCells++(la.drop k).flatMap actCells:=by rw [← List.flatMap_append,List.take_append_drop]
  rw [e2,List.getElem?_append_left (List.getElem?_eq_some_iff.1 hu).1]
  exact hu
theorem acts_drop {w:World} {B n k c:Nat} {A:Option Addr} {la:List PAct} (h:Acts w B A n la) (hk:k≤n) (hc:n≤c):Acts w B (if c=k then A else A.map (·.add (k * 3))) (n - k) (la.drop k):=by
 have hl:=h.len
 have h1:=h.rd.cut hk hc
 rw [flat_drop actCells_len la k (by omega)] at h1
 exact ⟨h1,by have:=h.nb;omega⟩
theorem slice_hi {A:Option Addr} {n c k:Nat} (hk:k≤n) (hc:n≤c) (hA:A=none→c=0) (W:World):(Instr.slice 34 (.slice A n c) none (some (.int .i64 (k:Int))) none).run Tryz.prog W=.ok (.slice A k c) W:=by
 rcases A with _|ad
 ·have h0:=hA rfl
  subst h0
  obtain rfl:n=0:=by omega
  obtain rfl:k=0:=by omega
  simp [go_sem]
 ·have h1:(k:Int)≤(c:Int):=by omega
  simp [go_sem, *]
theorem slice_lo {A:Option Addr} {n c k:Nat} (hk:k≤n) (hc:n≤c) (hA:A=none→c=0) (W:World):(Instr.slice 34 (.slice A n c) (some (.int .i64 (k:Int))) none none).run Tryz.prog W=.ok (.slice (if c=k then A else A.map (·.add (k * 3))) (n - k) (c - k)) W:=by
 rcases A with _|ad
 ·have h0:=hA rfl
  subst h0
  obtain rfl:n=0:=by omega
  obtain rfl:k=0:=by omega
  simp [go_sem]
 ·have h1:(k:Int)≤(n:Int):=by omega
  by_cases h2:c=k
  ·subst h2
   obtain rfl:n=c:=by omega
   simp [go_sem, *]
  ·have h3:¬(c:Int)=(k:Int):=by omega
   have h4:¬c - k=0:=by omega
   simp [go_sem, *]
section
variable {P:Program} (w:World)
theorem step_append_W {ops:Array Oper} {o:Oper} {a:Act} {K:Act→World→Prop} {Q:Exit→Act→World→Prop} {E:Prop} (hw:Region.wanted o (yielded ops a.tmps)=true) (s x:Operand) (t:TypeId)
  (ho:o.op=.call { callee:=.builtin .append,args:=#[s,x],argTypes:=#[t,t] })
  (base:Nat) (e:TypeId) (i:TypeInfo) (z:Value) (size bytes:Nat) (ht:P.underlying t=some (.slice e)) (hi:P.info? e=some i) (hz:i.zero=some z)
  (hsize:i.size=size) (hby:i.bytes=bytes) (hzs:z.cells.size=size) (hsz:0<size)
  (v:Value) (n:Nat) (xs:List Value) (hs:a.eval s=v) (hown:w.ownsRow base e size v n xs)
  (B:Nat) (A:Option Addr) (m c:Nat) (news:List Value) (hx:a.eval x=.slice A m c) (hr:Reads w B size A m news) (h1:∀ u∈news,u.oneCell'=true)
  (h63:n+m≤maxLen) (hbytes:(n+m) * bytes≤140737488355328) (hbase:base≤w.heap.size)
  (N:Nat) (ys:List Value) (hN:n+m=N) (hys:xs++news=ys) (h:∀ A' c' w',w'.ownsRow base e size (.slice A' N c') N ys→Below base w w'→K (a.put o.dst (.slice A' N c')) w') :
  if Region.wanted o (yielded ops a.tmps)=true then Oper.wp P o a w K Q else E:=by
 rw [if_pos hw]
 refine wp_append_any w s x t ho base e i z size bytes ht hi hz hsize hby hzs hsz v n xs hs hown B A m c news hx hr h1 h63 hbytes hbase ?_
 subst hN;subst hys
 intro v' w' h2 h3 h4
 obtain ⟨A',c',rfl⟩:=own_slice h2
 exact h A' c' w' h2 (grown_below h3 (fun k hk=>(hown.lt k hk).1) hbase)
end
theorem leafR {wf w0:World} {b g:Nat} {d1 f1 d2 f2 m:Int} {ss1 ss2:List ByteArray} {st:List PStep} {P:List PItem} {pp:List PPaper} {xs:List Int} {B1:Option Addr} {b1:Nat} {B2:Option Addr} {b2:Nat} {B3:Option Addr} {b3:Nat} {B4:Option Addr} {b4:Nat} {B5:Option Addr} {b5:Nat} {B6:Option Addr} {b6:Nat} {z0 z1 z2 z3 z4 z5 z6 z7 z8 z9:Value} (hk:wf.heap[g]?=some (.cells #[z0,z1,z2,z3,z4,z5,z6,z7,z8,z9] 33 (0,0))) (ho:OwnWN wf b wf.heap.size B1 b1 B2 b2 B3 b3 B4 b4 B5 b5 B6 b6 ⟨d1,f1,ss1,d2,f2,ss2,st⟩ P pp xs) (hb:Below b w0 wf) (hg:b≤g) :
  ((((((((((wf.setCell ⟨g,0,none⟩ (.int .i64 d1)).setCell ⟨g,1,none⟩ (.int .i64 f1)).setCell ⟨g,2,none⟩ (.slice B1 ss1.length b1)).setCell ⟨g,3,none⟩ (.int .i64 d2)).setCell ⟨g,4,none⟩ (.int .i64 f2)).setCell ⟨g,5,none⟩ (.slice B2 ss2.length b2)).setCell ⟨g,6,none⟩ (.slice B3 st.length b3)).setCell ⟨g,7,none⟩ (.slice B4 P.length b4)).setCell ⟨g,8,none⟩ (.slice B5 pp.length b5)).setCell ⟨g,9,none⟩ (.int .i64 m)).heap[g]?=some (.cells #[.int .i64 d1,.int .i64 f1,.slice B1 ss1.length b1,.int .i64 d2,.int .i64 f2,.slice B2 ss2.length b2,.slice B3 st.length b3,.slice B4 P.length b4,.slice B5 pp.length b5,.int .i64 m] 33 (0,0))∧OwnWN ((((((((((wf.setCell ⟨g,0,none⟩ (.int .i64 d1)).setCell ⟨g,1,none⟩ (.int .i64 f1)).setCell ⟨g,2,none⟩ (.slice B1 ss1.length b1)).setCell ⟨g,3,none⟩ (.int .i64 d2)).setCell ⟨g,4,none⟩ (.int .i64 f2)).setCell ⟨g,5,none⟩ (.slice B2 ss2.length b2)).setCell ⟨g,6,none⟩ (.slice B3 st.length b3)).setCell ⟨g,7,none⟩ (.slice B4 P.length b4)).setCell ⟨g,8,none⟩ (.slice B5 pp.length b5)).setCell ⟨g,9,none⟩ (.int .i64 m)) b ((((((((((wf.setCell ⟨g,0,none⟩ (.int .i64 d1)).setCell ⟨g,1,none⟩ (.int .i64 f1)).setCell ⟨g,2,none⟩ (.slice B1 ss1.length b1)).setCell ⟨g,3,none⟩ (.int .i64 d2)).setCell ⟨g,4,none⟩ (.int .i64 f2)).setCell ⟨g,5,none⟩ (.slice B2 ss2.length b2)).setCell ⟨g,6,none⟩ (.slice B3 st.length b3)).setCell ⟨g,7,none⟩ (.slice B4 P.length b4)).setCell ⟨g,8,none⟩ (.slice B5 pp.length b5)).setCell ⟨g,9,none⟩ (.int .i64 m)).heap.size B1 b1 B2 b2 B3 b3 B4 b4 B5 b5 B6 b6 ⟨d1,f1,ss1,d2,f2,ss2,st⟩ P pp xs∧Below b w0 ((((((((((wf.setCell ⟨g,0,none⟩ (.int .i64 d1)).setCell ⟨g,1,none⟩ (.int .i64 f1)).setCell ⟨g,2,none⟩ (.slice B1 ss1.length b1)).setCell ⟨g,3,none⟩ (.int .i64 d2)).setCell ⟨g,4,none⟩ (.int .i64 f2)).setCell ⟨g,5,none⟩ (.slice B2 ss2.length b2)).setCell ⟨g,6,none⟩ (.slice B3 st.length b3)).setCell ⟨g,7,none⟩ (.slice B4 P.length b4)).setCell ⟨g,8,none⟩ (.slice B5 pp.length b5)).setCell ⟨g,9,none⟩ (.int .i64 m)):=by
 refine ⟨?_,?_,?_⟩
 ·have:=blk_set (blk_set (blk_set (blk_set (blk_set (blk_set (blk_set (blk_set (blk_set (blk_set hk 0 (.int .i64 d1)) 1 (.int .i64 f1)) 2 (.slice B1 ss1.length b1)) 3 (.int .i64 d2)) 4 (.int .i64 f2)) 5 (.slice B2 ss2.length b2)) 6 (.slice B3 st.length b3)) 7 (.slice B4 P.length b4)) 8 (.slice B5 pp.length b5)) 9 (.int .i64 m)
  simpa using this
 ·exact (ho.box hk (by decide) (by repeat (first|(with_reducible exact World.grownBy.refl _ _)|(with_reducible refine only_setCell ?_ (.inl rfl) _)))).wide (Nat.le_refl _) (by simp [World.setCell])
 ·exact bel
theorem leafN {wf w0:World} {b g:Nat} {d1 f1 d2 f2 m:Int} {ss1 ss2:List ByteArray} {st:List PStep} {P:List PItem} {pp:List PPaper} {xs:List Int} {B1:Option Addr} {b1:Nat} {B2:Option Addr} {b2:Nat} {B3:Option Addr} {b3:Nat} {B4:Option Addr} {b4:Nat} {B5:Option Addr} {b5:Nat} {B6:Option Addr} {b6:Nat} (hb:Below b w0 wf) (ho:OwnWN wf b wf.heap.size B1 b1 B2 b2 B3 b3 B4 b4 B5 b5 B6 b6 ⟨d1,f1,ss1,d2,f2,ss2,st⟩ P pp xs) (hg:g=wf.heap.size) (hg2:b≤g) :
  (wf.alloc (.cells #[.int .i64 d1,.int .i64 f1,.slice B1 ss1.length b1,.int .i64 d2,.int .i64 f2,.slice B2 ss2.length b2,.slice B3 st.length b3,.slice B4 P.length b4,.slice B5 pp.length b5,.int .i64 m] 33)).heap[g]?=some (.cells #[.int .i64 d1,.int .i64 f1,.slice B1 ss1.length b1,.int .i64 d2,.int .i64 f2,.slice B2 ss2.length b2,.slice B3 st.length b3,.slice B4 P.length b4,.slice B5 pp.length b5,.int .i64 m] 33 (0,0))∧OwnWN (wf.alloc (.cells #[.int .i64 d1,.int .i64 f1,.slice B1 ss1.length b1,.int .i64 d2,.int .i64 f2,.slice B2 ss2.length b2,.slice B3 st.length b3,.slice B4 P.length b4,.slice B5 pp.length b5,.int .i64 m] 33)) b (wf.alloc (.cells #[.int .i64 d1,.int .i64 f1,.slice B1 ss1.length b1,.int .i64 d2,.int .i64 f2,.slice B2 ss2.length b2,.slice B3 st.length b3,.slice B4 P.length b4,.slice B5 pp.length b5,.int .i64 m] 33)).heap.size B1 b1 B2 b2 B3 b3 B4 b4 B5 b5 B6 b6 ⟨d1,f1,ss1,d2,f2,ss2,st⟩ P pp xs∧Below b w0 (wf.alloc (.cells #[.int .i64 d1,.int .i64 f1,.slice B1 ss1.length b1,.int .i64 d2,.int .i64 f2,.slice B2 ss2.length b2,.slice B3 st.length b3,.slice B4 P.length b4,.slice B5 pp.length b5,.int .i64 m] 33)):=by
 subst hg
 exact ⟨blk_new_at _ _ rfl,(ho.alloc _).wide (Nat.le_refl _) (by simp),bel⟩
set_option maxHeartbeats 25600000 in
theorem walkActParts (A:Option Addr) (c:Nat) (bs:List Int) (w:World) (hT:Tab w) (hK:Code w w.heap.size A bs) :
  Calls Tryz.prog 3 #[.slice A bs.length c] w fun e w'=>e=.returned (.bool true)∧Below w.heap.size w w':=by
 have hnb:=hK.nb
 have hd:decide (1048576<bs.length)=false:=by simp;omega
 obtain ⟨i0,hi0,hz0,hz1,hz2⟩:=info_parts info_int
 go_enter Tryz.func3,Tryz.ntmps3
 go_wp2_with (go_at_call 9;refine (l_big _ _ _ _ (by omega)).mono ?_;rw [hd];rintro e w' ⟨rfl,rfl⟩)
 refine (s_DrawActs w.heap.size A c bs w hK (Nat.le_refl _)).mono ?_
 rintro e w1 ⟨d1,f1,ss1,d2,f2,ss2,st,P,pp,m,A1,c1,A2,c2,A3,c3,A4,c4,A5,c5,la,Aa,ca,HW,hla,rfl,o_W,o_A,G_⟩
 have hwk:=HW.ok
 have hz:=HW.z
 have s_w1:=G_.size
 obtain ⟨n,hn⟩:∃ n,la.length=n:=⟨_,rfl⟩
 have hcap:=own_capU o_A.row
 have k_o:=blk_new w1 (.cells #[.int .i64 d1,.int .i64 f1,.slice A1 ss1.length c1,.int .i64 d2,.int .i64 f2,.slice A2 ss2.length c2,.slice A3 st.length c3,.slice A4 P.length c4,.slice A5 pp.length c5,.int .i64 m] 33)
 have o_W2:=o_W.alloc (.cells #[.int .i64 d1,.int .i64 f1,.slice A1 ss1.length c1,.int .i64 d2,.int .i64 f2,.slice A2 ss2.length c2,.slice A3 st.length c3,.slice A4 P.length c4,.slice A5 pp.length c5,.int .i64 m] 33)
 have o_A2:=o_A.alloc (.cells #[.int .i64 d1,.int .i64 f1,.slice A1 ss1.length c1,.int .i64 d2,.int .i64 f2,.slice A2 ss2.length c2,.slice A3 st.length c3,.slice A4 P.length c4,.slice A5 pp.length c5,.int .i64 m] 33)
 have G_2:=G_.alloc s_w1 (.cells #[.int .i64 d1,.int .i64 f1,.slice A1 ss1.length c1,.int .i64 d2,.int .i64 f2,.slice A2 ss2.length c2,.slice A3 st.length c3,.slice A4 P.length c4,.slice A5 pp.length c5,.int .i64 m] 33)
 rw [hn] at hla hcap ⊢
 clear o_W o_A G_ HW
 go_wp2_with fail
 generalize (w1.alloc (.cells #[.int .i64 d1,.int .i64 f1,.slice A1 ss1.length c1,.int .i64 d2,.int .i64 f2,.slice A2 ss2.length c2,.slice A3 st.length c3,.slice A4 P.length c4,.slice A5 pp.length c5,.int .i64 m] 33))=w2 at *
 obtain ⟨bo,hbo⟩:∃ x,x=w1.heap.size:=⟨_,rfl⟩
 rw [← hbo] at k_o
 try rw [← hbo]
 clear hbo
 refine (s_DrawPlaces w.heap.size A c bs w2 (hK.below G_2) G_2.size).mono ?_
 rintro e w3 ⟨lp,Ap,cp,hlp,hpx,rfl,o_P,z_⟩
 have k_3:=blk_next k_o z_
 have o_W3:=o_W2.below z_
 have o_A3:=o_A2.below z_
 have G_3:=G_2.trans (z_.mono G_2.size)
 clear k_o o_W2 o_A2 G_2 z_
 have hsp:=o_P.row
 rw [hlp] at hsp
 obtain ⟨gP,capP,hvP,hbP,hltP⟩:=hsp.form (by omega)
 have hAP:Ap=some ⟨gP,0,none⟩:=by injection hvP
 subst hAP
 clear hvP
 have h0x:0<lp.length:=by omega
 have hpb:=hpx _ (List.getElem_mem h0x)
 have hc0:w3.cell? ⟨gP,0,none⟩=some (.int .i64 lp[0]):=by rw [hsp.cellAt 0 (by omega)];unfold ints;rw [List.getElem?_map,List.getElem?_eq_getElem h0x];rfl
 obtain ⟨p0,hp0⟩:∃ x,lp[0]=x:=⟨_,rfl⟩
 rw [hp0] at hc0 hpb
 clear hpx hp0 hsp o_P
 have hN1:(0:Int)<(n:Int)+1:=by omega
 obtain ⟨K,hK0⟩:∃ K:Nat,(K:Int)=p0 % ((n:Int)+1):=⟨(p0 % ((n:Int)+1)).toNat,by rw [Int.toNat_of_nonneg (Int.emod_nonneg _ (by omega))]⟩
 have hKn:(K:Int)<(n:Int)+1:=by rw [hK0];exact Int.emod_lt_of_pos _ hN1
 have hKn2:K≤n:=by omega
 have hrem:Int.tmod p0 ((n:Int)+1)=(K:Int):=by rw [Int.tmod_eq_emod_of_nonneg hpb.1,hK0]
 have hnz:¬(n:Int)+1=0:=by omega
 have hK1:=hK0.symm
 clear hK0
 have hrp:=run_parts (l:=la) K hwk (by omega)
 have hwY:=runRes_work (l:=la.take K) hwk
 have hzY:=runRes_ok ⟨⟨d1,f1,ss1,d2,f2,ss2,st⟩,P,pp,m⟩ (la.take K) hz
 have hlY:(runRes ⟨⟨d1,f1,ss1,d2,f2,ss2,st⟩,P,pp,m⟩ (la.take K)).2.length=K:=by rw [runRes_yes hwk (by rw [List.length_take];omega),runAll_len,List.length_take];simp;omega
 have kX0:=fun (W:World) (V1 V2 V3 V4 V5:Option Addr) (v1 v2 v3 v4 v5:Nat) (h1:RdWork W W.heap.size V1 V2 V3 V4 v4 V5 ⟨d1,f1,ss1,d2,f2,ss2,st⟩ P pp) (h2:Acts W W.heap.size Aa la.length la)=>i_RunActs d1 f1 ss1 d2 f2 ss2 st P pp m la W.heap.size V1 V2 V3 V4 V5 v1 v2 v3 v4 v5 Aa ca W h1 h2 (Nat.le_refl _) hz
 have kY0:=fun (W:World) (V1 V2 V3 V4 V5:Option Addr) (v1 v2 v3 v4 v5:Nat) (h1:RdWork W W.heap.size V1 V2 V3 V4 v4 V5 ⟨d1,f1,ss1,d2,f2,ss2,st⟩ P pp) (h2:Acts W W.heap.size Aa (la.take K).length (la.take K))=>i_RunActs d1 f1 ss1 d2 f2 ss2 st P pp m (la.take K) W.heap.size V1 V2 V3 V4 V5 v1 v2 v3 v4 v5 Aa ca W h1 h2 (Nat.le_refl _) hz
 simp only [hrp] at kX0
 clear hrp
 generalize runRes ⟨⟨d1,f1,ss1,d2,f2,ss2,st⟩,P,pp,m⟩ (la.take K)=RY at *
 obtain ⟨⟨⟨y1,y2,ya,y3,y4,yb,yt⟩,yP,yp,ym⟩,xa⟩:=RY
 simp only at kX0 kY0 hwY hzY hlY
 have hwZ:=runRes_work (l:=la.drop K) hwY
 have hzZ:=runRes_ok ⟨⟨y1,y2,ya,y3,y4,yb,yt⟩,yP,yp,ym⟩ (la.drop K) hzY
 have hlZ:(runRes ⟨⟨y1,y2,ya,y3,y4,yb,yt⟩,yP,yp,ym⟩ (la.drop K)).2.length=n - K:=by rw [runRes_yes hwY (by rw [List.length_drop];omega),runAll_len,List.length_drop];simp;omega
 obtain ⟨Ad,hAd⟩:∃ x,(if ca=K then Aa else Aa.map (·.add (K * 3)))=x:=⟨_,rfl⟩
 have kZ0:=fun (W:World) (V1 V2 V3 V4 V5:Option Addr) (v1 v2 v3 v4 v5:Nat) (h1:RdWork W W.heap.size V1 V2 V3 V4 v4 V5 ⟨y1,y2,ya,y3,y4,yb,yt⟩ yP yp) (h2:Acts W W.heap.size Ad (la.drop K).length (la.drop K))=>i_RunActs y1 y2 ya y3 y4 yb yt yP yp ym (la.drop K) W.heap.size V1 V2 V3 V4 V5 v1 v2 v3 v4 v5 Ad (ca - K) W h1 h2 (Nat.le_refl _) hzY
 generalize runRes ⟨⟨y1,y2,ya,y3,y4,yb,yt⟩,yP,yp,ym⟩ (la.drop K)=RZ at *
 obtain ⟨⟨⟨e1,g1,ts1,e2,g2,ts2,tt⟩,Q,qq,mm⟩,xb⟩:=RZ
 simp only at kX0 kZ0 hwZ hzZ hlZ
 have hl1:(xa++xb).length=n:=by rw [List.length_append,hlY,hlZ];omega
 have hl2:(la.take K).length=K:=by rw [List.length_take];omega
 have hl3:(la.drop K).length=n - K:=by rw [List.length_drop,hn]
 have kX:∀ (W:World) (lo hi:Nat) (V1:Option Addr) (v1:Nat) (V2:Option Addr) (v2:Nat) (V3:Option Addr) (v3:Nat) (V4:Option Addr) (v4:Nat) (V5:Option Addr) (v5:Nat),OwnW W lo hi V1 v1 V2 v2 V3 v3 V4 v4 V5 v5 ⟨d1,f1,ss1,d2,f2,ss2,st⟩ P pp→Acts W W.heap.size Aa n (la)→Calls Tryz.prog 12 #[.agg #[.int .i64 d1,.int .i64 f1,.slice V1 ss1.length v1,.int .i64 d2,.int .i64 f2,.slice V2 ss2.length v2,.slice V3 st.length v3,.slice V4 P.length v4,.slice V5 pp.length v5,.int .i64 m],.slice Aa n ca] W fun e w'=>∃ (B1:Option Addr) (b1:Nat) (B2:Option Addr) (b2:Nat) (B3:Option Addr) (b3:Nat) (B4:Option Addr) (b4:Nat) (B5:Option Addr) (b5:Nat) (B6:Option Addr) (b6:Nat),e=.returned (.tuple #[.agg #[.int .i64 e1,.int .i64 g1,.slice B1 ts1.length b1,.int .i64 e2,.int .i64 g2,.slice B2 ts2.length b2,.slice B3 tt.length b3,.slice B4 Q.length b4,.slice B5 qq.length b5,.int .i64 mm],.slice B6 n b6])∧OwnWN w' W.heap.size w'.heap.size B1 b1 B2 b2 B3 b3 B4 b4 B5 b5 B6 b6 ⟨e1,g1,ts1,e2,g2,ts2,tt⟩ Q qq (xa++xb)∧Below W.heap.size W w':=by
  intro W lo hi V1 v1 V2 v2 V3 v3 V4 v4 V5 v5 h1 h2
  have h:=kX0 W V1 V2 V3 V4 V5 v1 v2 v3 v4 v5 (h1.rd (hz.more (by omega))) (by rw [hn];exact h2)
  rw [hn] at h
  refine h.mono ?_
  rintro e w' ⟨B1,b1,B2,b2,B3,b3,B4,b4,B5,b5,B6,b6,rfl,ho,hb⟩
  exact ⟨B1,b1,B2,b2,B3,b3,B4,b4,B5,b5,B6,b6,by rw [hl1],ho,hb⟩
 have kY:∀ (W:World) (lo hi:Nat) (V1:Option Addr) (v1:Nat) (V2:Option Addr) (v2:Nat) (V3:Option Addr) (v3:Nat) (V4:Option Addr) (v4:Nat) (V5:Option Addr) (v5:Nat),OwnW W lo hi V1 v1 V2 v2 V3 v3 V4 v4 V5 v5 ⟨d1,f1,ss1,d2,f2,ss2,st⟩ P pp→Acts W W.heap.size Aa K (la.take K)→Calls Tryz.prog 12 #[.agg #[.int .i64 d1,.int .i64 f1,.slice V1 ss1.length v1,.int .i64 d2,.int .i64 f2,.slice V2 ss2.length v2,.slice V3 st.length v3,.slice V4 P.length v4,.slice V5 pp.length v5,.int .i64 m],.slice Aa K ca] W fun e w'=>∃ (B1:Option Addr) (b1:Nat) (B2:Option Addr) (b2:Nat) (B3:Option Addr) (b3:Nat) (B4:Option Addr) (b4:Nat) (B5:Option Addr) (b5:Nat) (B6:Option Addr) (b6:Nat),e=.returned (.tuple #[.agg #[.int .i64 y1,.int .i64 y2,.slice B1 ya.length b1,.int .i64 y3,.int .i64 y4,.slice B2 yb.length b2,.slice B3 yt.length b3,.slice B4 yP.length b4,.slice B5 yp.length b5,.int .i64 ym],.slice B6 K b6])∧OwnWN w' W.heap.size w'.heap.size B1 b1 B2 b2 B3 b3 B4 b4 B5 b5 B6 b6 ⟨y1,y2,ya,y3,y4,yb,yt⟩ yP yp xa∧Below W.heap.size W w':=by
  intro W lo hi V1 v1 V2 v2 V3 v3 V4 v4 V5 v5 h1 h2
  have h:=kY0 W V1 V2 V3 V4 V5 v1 v2 v3 v4 v5 (h1.rd (hz.more (by omega))) (by rw [hl2];exact h2)
  rw [hl2] at h
  refine h.mono ?_
  rintro e w' ⟨B1,b1,B2,b2,B3,b3,B4,b4,B5,b5,B6,b6,rfl,ho,hb⟩
  exact ⟨B1,b1,B2,b2,B3,b3,B4,b4,B5,b5,B6,b6,by rw [hlY],ho,hb⟩
 have kZ:∀ (W:World) (lo hi:Nat) (V1:Option Addr) (v1:Nat) (V2:Option Addr) (v2:Nat) (V3:Option Addr) (v3:Nat) (V4:Option Addr) (v4:Nat) (V5:Option Addr) (v5:Nat),OwnW W lo hi V1 v1 V2 v2 V3 v3 V4 v4 V5 v5 ⟨y1,y2,ya,y3,y4,yb,yt⟩ yP yp→Acts W W.heap.size Ad (n - K) (la.drop K)→Calls Tryz.prog 12 #[.agg #[.int .i64 y1,.int .i64 y2,.slice V1 ya.length v1,.int .i64 y3,.int .i64 y4,.slice V2 yb.length v2,.slice V3 yt.length v3,.slice V4 yP.length v4,.slice V5 yp.length v5,.int .i64 ym],.slice Ad (n - K) (ca - K)] W fun e w'=>∃ (B1:Option Addr) (b1:Nat) (B2:Option Addr) (b2:Nat) (B3:Option Addr) (b3:Nat) (B4:Option Addr) (b4:Nat) (B5:Option Addr) (b5:Nat) (B6:Option Addr) (b6:Nat),e=.returned (.tuple #[.agg #[.int .i64 e1,.int .i64 g1,.slice B1 ts1.length b1,.int .i64 e2,.int .i64 g2,.slice B2 ts2.length b2,.slice B3 tt.length b3,.slice B4 Q.length b4,.slice B5 qq.length b5,.int .i64 mm],.slice B6 (n - K) b6])∧OwnWN w' W.heap.size w'.heap.size B1 b1 B2 b2 B3 b3 B4 b4 B5 b5 B6 b6 ⟨e1,g1,ts1,e2,g2,ts2,tt⟩ Q qq xb∧Below W.heap.size W w':=by
  intro W lo hi V1 v1 V2 v2 V3 v3 V4 v4 V5 v5 h1 h2
  have h:=kZ0 W V1 V2 V3 V4 V5 v1 v2 v3 v4 v5 (h1.rd (hzY.more (by omega))) (by rw [hl3];exact h2)
  rw [hl3] at h
  refine h.mono ?_
  rintro e w' ⟨B1,b1,B2,b2,B3,b3,B4,b4,B5,b5,B6,b6,rfl,ho,hb⟩
  exact ⟨B1,b1,B2,b2,B3,b3,B4,b4,B5,b5,B6,b6,by rw [hlZ],ho,hb⟩
 have sl1:=slice_hi hKn2 hcap.1 hcap.2.2
 have sl2:=slice_lo hKn2 hcap.1 hcap.2.2
 rw [hAd] at sl2
 have acT:∀ W:World,OwnA W w.heap.size w1.heap.size Aa ca la→Acts W W.heap.size Aa n la∧Acts W W.heap.size Aa K (la.take K)∧Acts W W.heap.size Ad (n - K) (la.drop K):=by
  intro W h
  have h1:=h.rd (by omega)
  rw [hn] at h1
  have h3:=acts_drop h1 hKn2 hcap.1
  rw [hAd] at h3
  exact ⟨h1,acts_take h1 hKn2,h3⟩
 obtain ⟨M,hM⟩:∃ M,n - K=M:=⟨_,rfl⟩
 rw [hM] at kZ hlZ sl2
 simp only [hM] at acT
 have hKM:K+M=n:=by omega
 obtain ⟨cd,hcd⟩:∃ q,ca - K=q:=⟨_,rfl⟩
 rw [hcd] at kZ sl2
 have KX:=hide kX
 have KY:=hide kY
 have KZ:=hide kZ
 have ACT:=hide acT
 have HL1:=Lib.hid hl1
 have HLY:=Lib.hid hlY
 have HLZ:=Lib.hid hlZ
 have HKM:=Lib.hid hKM
 have HWZ:=Lib.hid hwZ
 have HZZ:=hide hzZ
 clear kX0 kY0 kZ0 kX kY kZ acT hl1 hl2 hl3 hlY hlZ hKM hwY hwZ hzZ hzY hz hwk hM hcd hAd hn hcap
 obtain ⟨x0,x1,x2,x3,x4,x5,x6,x7,x8,x9,xl⟩:=blk10 k_3
 go_wp2_with fail
 clear x0 x1 x2 x3 x4 x5 x6 x7 x8 x9 xl hc0 hrem
 refine (KX.out w3 _ _ A1 c1 A2 c2 A3 c3 A4 c4 A5 c5 o_W3 (ACT.out w3 o_A3).1).mono ?_
 clear KX
 rintro e w4 ⟨B1,b1,B2,b2,B3,b3,B4,b4,B5,b5,B6,b6,rfl,oX,z_⟩
 have k_4:=blk_next k_3 z_
 have o_W4:=o_W3.below z_
 have o_A4:=o_A3.below z_
 have G_4:=G_3.trans (z_.mono G_3.size)
 clear k_3 o_W3 o_A3 G_3 z_
 go_upto_region 7 with fail
 have k_x:=blk_new w4 (.cells #[.int .i64 e1,.int .i64 g1,.slice B1 ts1.length b1,.int .i64 e2,.int .i64 g2,.slice B2 ts2.length b2,.slice B3 tt.length b3,.slice B4 Q.length b4,.slice B5 qq.length b5,.int .i64 mm] 33)
 have k_5:=blk_alloc k_4 (.cells #[.int .i64 e1,.int .i64 g1,.slice B1 ts1.length b1,.int .i64 e2,.int .i64 g2,.slice B2 ts2.length b2,.slice B3 tt.length b3,.slice B4 Q.length b4,.slice B5 qq.length b5,.int .i64 mm] 33)
 have oX5:=oX.alloc (.cells #[.int .i64 e1,.int .i64 g1,.slice B1 ts1.length b1,.int .i64 e2,.int .i64 g2,.slice B2 ts2.length b2,.slice B3 tt.length b3,.slice B4 Q.length b4,.slice B5 qq.length b5,.int .i64 mm] 33)
 have o_W5:=o_W4.alloc (.cells #[.int .i64 e1,.int .i64 g1,.slice B1 ts1.length b1,.int .i64 e2,.int .i64 g2,.slice B2 ts2.length b2,.slice B3 tt.length b3,.slice B4 Q.length b4,.slice B5 qq.length b5,.int .i64 mm] 33)
 have o_A5:=o_A4.alloc (.cells #[.int .i64 e1,.int .i64 g1,.slice B1 ts1.length b1,.int .i64 e2,.int .i64 g2,.slice B2 ts2.length b2,.slice B3 tt.length b3,.slice B4 Q.length b4,.slice B5 qq.length b5,.int .i64 mm] 33)
 have G_5:=G_4.alloc G_4.size (.cells #[.int .i64 e1,.int .i64 g1,.slice B1 ts1.length b1,.int .i64 e2,.int .i64 g2,.slice B2 ts2.length b2,.slice B3 tt.length b3,.slice B4 Q.length b4,.slice B5 qq.length b5,.int .i64 mm] 33)
 generalize w4.alloc (.cells #[.int .i64 e1,.int .i64 g1,.slice B1 ts1.length b1,.int .i64 e2,.int .i64 g2,.slice B2 ts2.length b2,.slice B3 tt.length b3,.slice B4 Q.length b4,.slice B5 qq.length b5,.int .i64 mm] 33)=w5 at *
 obtain ⟨bX,hbX⟩:∃ x,x=w4.heap.size:=⟨_,rfl⟩
 rw [← hbX] at k_x
 try rw [← hbX]
 clear hbX k_4 oX o_W4 o_A4 G_4
 obtain ⟨x0,x1,x2,x3,x4,x5,x6,x7,x8,x9,xl⟩:=blk10 k_5
 go_cut [9,10] (fun s9 s10 wx=>∃ (g9:Nat) (Y1:Option Addr) (q1:Nat) (Y2:Option Addr) (q2:Nat) (Y3:Option Addr) (q3:Nat) (Y4:Option Addr) (q4:Nat) (Y5:Option Addr) (q5:Nat) (Y6:Option Addr) (q6:Nat),s9=.pointer (some ⟨g9,0,none⟩)∧s10=.slice Y6 K q6∧wx.heap[g9]?=some (.cells #[.int .i64 y1,.int .i64 y2,.slice Y1 ya.length q1,.int .i64 y3,.int .i64 y4,.slice Y2 yb.length q2,.slice Y3 yt.length q3,.slice Y4 yP.length q4,.slice Y5 yp.length q5,.int .i64 ym] 33 (0,0))∧OwnWN wx w5.heap.size wx.heap.size Y1 q1 Y2 q2 Y3 q3 Y4 q4 Y5 q5 Y6 q6 ⟨y1,y2,ya,y3,y4,yb,yt⟩ yP yp xa∧Below w5.heap.size w5 wx)
 case first =>
  go_region_held3 (fun W=>(∀ b o,b<w5.heap.size→W.cell? ⟨b,o,none⟩=(w5).cell? ⟨b,o,none⟩)∧(∀ b o,b<w5.heap.size→W.frozen? ⟨b,o,none⟩=(w5).frozen? ⟨b,o,none⟩)∧Below (w5.heap.size) (w5) W) (exact keep_of bel) (first|(go_at_call 12;have hq:=(‹_∧_∧Below _ _ _›).2.2;refine (KY.out _ _ _ A1 c1 A2 c2 A3 c3 A4 c4 A5 c5 (o_W5.below hq) (ACT.out _ (o_A5.below hq)).2.1).mono ?_;rintro e wf ⟨Y1,q1,Y2,q2,Y3,q3,Y4,q4,Y5,q5,Y6,q6,rfl,hor,hbf⟩;(have hof:=hor.wide (lo':=w5.heap.size) (hi':=wf.heap.size) (by first|exact hq.size|exact Nat.le_refl _) (Nat.le_refl _));clear hor;have hqs:=hq.size;have hbs:=hbf.size;(try simp at hqs);(try simp at hbs);obtain ⟨hcbf,hfbf⟩:=bcell hbf;(try (have qaa:w5.heap.size<wf.heap.size:=(by omega)))))
  all_goals (go_wp2_with fail)
  all_goals (go_meet)
  all_goals (
   refine ⟨_,Y1,q1,Y2,q2,Y3,q3,Y4,q4,Y5,q5,Y6,q6,rfl,rfl,?_⟩
   first
    |((with_reducible refine leafN ?_ hof ?_ ?_);(first|exact bel);(first|rfl|(simp;done));(first|omega|(simp;done)|(simp;omega)))
    |((with_reducible apply leafR (ho:=hof));(case hk=>(focus ((repeat (first|(with_reducible exact blk_new_at _ _ (by first|rfl|(simp;done)))|(with_reducible refine blk_next ?_ hbf)|(with_reducible refine blk_drew ?_)|(with_reducible refine blk_alloc ?_ _)));(first|done|fail))));(case hb=>exact bel);(case hg=>first|omega|(simp;done)|(simp;omega))))
 obtain ⟨g9,Y1,q1,Y2,q2,Y3,q3,Y4,q4,Y5,q5,Y6,q6,rfl,rfl,k_y,oY,z_⟩:=hcut
 obtain ⟨w6,hwc⟩:∃ W,W=wc:=⟨_,rfl⟩
 subst hwc
 have k_x6:=blk_next k_x z_
 have oX6:=oX5.below z_
 have o_A6:=o_A5.below z_
 have G_6:=G_5.trans (z_.mono G_5.size)
 obtain ⟨l1,h1,l2,h2,hr,ha,oYW,oYN⟩:=oY.all
 clear x0 x1 x2 x3 x4 x5 x6 x7 x8 x9 xl k_5 o_W5 o_A5 G_5 oX5 k_x z_ KY hr ha oY
 obtain ⟨x0,x1,x2,x3,x4,x5,x6,x7,x8,x9,xl⟩:=blk10 k_y
 go_upto_region 8 with fail
 go_cut [11,12] (fun s11 s12 wx=>∃ (g11:Nat) (Z1:Option Addr) (r1:Nat) (Z2:Option Addr) (r2:Nat) (Z3:Option Addr) (r3:Nat) (Z4:Option Addr) (r4:Nat) (Z5:Option Addr) (r5:Nat) (Z6:Option Addr) (r6:Nat),s11=.pointer (some ⟨g11,0,none⟩)∧s12=.slice Z6 M r6∧wx.heap[g11]?=some (.cells #[.int .i64 e1,.int .i64 g1,.slice Z1 ts1.length r1,.int .i64 e2,.int .i64 g2,.slice Z2 ts2.length r2,.slice Z3 tt.length r3,.slice Z4 Q.length r4,.slice Z5 qq.length r5,.int .i64 mm] 33 (0,0))∧OwnWN wx w6.heap.size wx.heap.size Z1 r1 Z2 r2 Z3 r3 Z4 r4 Z5 r5 Z6 r6 ⟨e1,g1,ts1,e2,g2,ts2,tt⟩ Q qq xb∧Below w6.heap.size w6 wx)
 case first =>
  go_region_held3 (fun W=>(∀ b o,b<w6.heap.size→W.cell? ⟨b,o,none⟩=(w6).cell? ⟨b,o,none⟩)∧(∀ b o,b<w6.heap.size→W.frozen? ⟨b,o,none⟩=(w6).frozen? ⟨b,o,none⟩)∧Below (w6.heap.size) (w6) W) (exact keep_of bel) (first|(go_at_call 12;have hq:=(‹_∧_∧Below _ _ _›).2.2;refine (KZ.out _ _ _ Y1 q1 Y2 q2 Y3 q3 Y4 q4 Y5 q5 (oYW.below hq) (ACT.out _ (o_A6.below hq)).2.2).mono ?_;rintro e wf ⟨Z1,r1,Z2,r2,Z3,r3,Z4,r4,Z5,r5,Z6,r6,rfl,hor,hbf⟩;(have hof:=hor.wide (lo':=w6.heap.size) (hi':=wf.heap.size) (by first|exact hq.size|exact Nat.le_refl _) (Nat.le_refl _));clear hor;have hqs:=hq.size;have hbs:=hbf.size;(try simp at hqs);(try simp at hbs);obtain ⟨hcbf,hfbf⟩:=bcell hbf;(try (have qaa:w6.heap.size<wf.heap.size:=(by omega)))))
  all_goals (go_wp2_with fail)
  all_goals (go_meet)
  all_goals (
   refine ⟨_,Z1,r1,Z2,r2,Z3,r3,Z4,r4,Z5,r5,Z6,r6,rfl,rfl,?_⟩
   first
    |((with_reducible refine leafN ?_ hof ?_ ?_);(first|exact bel);(first|rfl|(simp;done));(first|omega|(simp;done)|(simp;omega)))
    |((with_reducible apply leafR (ho:=hof));(case hk=>(focus ((repeat (first|(with_reducible exact blk_new_at _ _ (by first|rfl|(simp;done)))|(with_reducible refine blk_next ?_ hbf)|(with_reducible refine blk_drew ?_)|(with_reducible refine blk_alloc ?_ _)));(first|done|fail))));(case hb=>exact bel);(case hg=>first|omega|(simp;done)|(simp;omega))))
 obtain ⟨g11,Z1,r1,Z2,r2,Z3,r3,Z4,r4,Z5,r5,Z6,r6,rfl,rfl,k_z,oZ,z_⟩:=hcut
 obtain ⟨w7,hwc⟩:∃ W,W=wc:=⟨_,rfl⟩
 subst hwc
 have k_x7:=blk_next k_x6 z_
 have oX7:=oX6.below z_
 have oY7:=oYN.below z_
 have G_7:=G_6.trans (z_.mono G_6.size)
 have hT7:=hT.below G_7
 clear x0 x1 x2 x3 x4 x5 x6 x7 x8 x9 xl o_A6 G_6 oX6 k_x6 z_ KZ ACT oYW oYN k_y
 obtain ⟨m1,m2,m3,m4,_,_,oXW,oXN⟩:=oX7.all
 obtain ⟨m5,m6,m7,m8,_,_,oZW,oZN⟩:=oZ.all
 have hwz:=HWZ.out
 have hzz:=HZZ.out
 have hsl:(shopT ⟨⟨e1,g1,ts1,e2,g2,ts2,tt⟩,Q,qq,mm⟩).length=5:=rfl
 have hss:=shopT_size hwz
 have kFX:=fun (W:World) (h:Below w7.heap.size w7 W)=>i_FormatWorkshop e1 g1 ts1 e2 g2 ts2 tt Q qq mm _ _ B1 B2 B3 B4 B5 b1 b2 b3 b4 b5 W (oXW.below h) hzz hwz (hT7.below h)
 have kFZ:=fun (W:World) (h:Below w7.heap.size w7 W)=>i_FormatWorkshop e1 g1 ts1 e2 g2 ts2 tt Q qq mm _ _ Z1 Z2 Z3 Z4 Z5 r1 r2 r3 r4 r5 W (oZW.below h) hzz hwz (hT7.below h)
 generalize shopT ⟨⟨e1,g1,ts1,e2,g2,ts2,tt⟩,Q,qq,mm⟩=sh at *
 unfold FreshStrs at kFX kFZ
 simp only [hsl] at kFX kFZ
 have KFX:=hide kFX
 have KFZ:=hide kFZ
 have HSS:=hide (show ∀ s∈sh,s.size≤16777216 from fun s hs=>Nat.le_trans (hss s hs) (by decide))
 have rX:=oXN.rd
 have rY:=oY7.rd
 have rZ:=oZN.rd
 rw [HL1.out] at rX
 rw [HLY.out] at rY
 rw [HLZ.out] at rZ
 have hsum:ints xa++ints xb=ints (xa++xb):=by unfold ints;rw [List.map_append]
 have HSUM:=Lib.hid hsum
 have HKM2:=HKM.out
 have one1:∀ u∈ints xa,u.oneCell'=true:=by intro u hu;unfold ints at hu;obtain ⟨q,_,rfl⟩:=List.mem_map.1 hu;rfl
 have one2:∀ u∈ints xb,u.oneCell'=true:=by intro u hu;unfold ints at hu;obtain ⟨q,_,rfl⟩:=List.mem_map.1 hu;rfl
 have ONE1:=hide one1
 have ONE2:=hide one2
 obtain ⟨x0,x1,x2,x3,x4,x5,x6,x7,x8,x9,xl⟩:=blk10 k_x7
 obtain ⟨y0_,y1_,y2_,y3_,y4_,y5_,y6_,y7_,y8_,y9_,yl_⟩:=blk10 k_z
 have tok1:True:=trivial
 have tok2:True:=trivial
 clear kFX kFZ one1 one2 hsl hss hsum hwz hzz oX7 oZ oXW oZW oXN oZN oY7 k_x7 k_z hT7
 go_upto_region 9 with fail
 go_region_held3 (fun W=>(∀ b o,b<w7.heap.size→W.cell? ⟨b,o,none⟩=(w7).cell? ⟨b,o,none⟩)∧(∀ b o,b<w7.heap.size→W.frozen? ⟨b,o,none⟩=(w7).frozen? ⟨b,o,none⟩)∧Below (w7.heap.size) (w7) W) (exact keep_of bel) (first|(go_at_call_of 13 (Value.agg #[.int .i64 e1,.int .i64 g1,.slice B1 ts1.length b1,.int .i64 e2,.int .i64 g2,.slice B2 ts2.length b2,.slice B3 tt.length b3,.slice B4 Q.length b4,.slice B5 qq.length b5,.int .i64 mm]);have _t:=tok1;have hq:=(‹_∧_∧Below _ _ _›).2.2;refine (KFX.out _ hq).mono ?_;rintro e u1 ⟨Au1,cu1,rfl,ru1,hu1⟩;clear _t tok1;have hq1:=hq.size;have hs1:=hu1.size;(try simp at hq1);(try simp at hs1))|(go_at_call_of 13 (Value.agg #[.int .i64 e1,.int .i64 g1,.slice B1 ts1.length b1,.int .i64 e2,.int .i64 g2,.slice B2 ts2.length b2,.slice B3 tt.length b3,.slice B4 Q.length b4,.slice B5 qq.length b5,.int .i64 mm]);have _t:=tok2;have hq:=(‹_∧_∧Below _ _ _›).2.2;refine (KFX.out _ hq).mono ?_;rintro e u2 ⟨Au2,cu2,rfl,ru2,hu2⟩;clear _t tok2;have hq2:=hq.size;have hs2:=hu2.size;(try simp at hq2);(try simp at hs2))|(go_at_call_of 13 (Value.agg #[.int .i64 e1,.int .i64 g1,.slice Z1 ts1.length r1,.int .i64 e2,.int .i64 g2,.slice Z2 ts2.length r2,.slice Z3 tt.length r3,.slice Z4 Q.length r4,.slice Z5 qq.length r5,.int .i64 mm]);have hq:=(‹_∧_∧Below _ _ _›).2.2;refine (KFZ.out _ hq).mono ?_;rintro e u3 ⟨Au3,cu3,rfl,ru3,hu3⟩;have hq3:=hq.size;have hs3:=hu3.size;(try simp at hq3);(try simp at hs3);(have S2:Strs u3 u3.heap.size Au2 5 sh:=strs_of_own (own_below ru2 hu3) (by omega) HSS.out);(have S3:Strs u3 u3.heap.size Au3 5 sh:=strs_of_own ru3 (by omega) HSS.out))|(go_at_call 14;refine (l_sameTexts u3.heap.size Au2 Au3 5 cu2 cu3 sh _ S2 S3).mono ?_;rintro e u4 ⟨rfl,hu4⟩;have hs4:=hu4.size;(try simp at hs4))|(have hq9:=(‹_∧_∧Below _ _ _›).2.2;have rq9:=rY.below hq9;refine step_append_W _ ?_ (.tmp 64) (.tmp 65) 37 ?_ u4.heap.size 3 i0 (.int .i64 0) 1 8 Tryz.underlying37 hi0 hz0 hz1 hz2 ?_ (by omega) (.slice (some ⟨u4.heap.size,0,none⟩) 0 0) 0 [] ?_ ?_ w7.heap.size Y6 K q6 (ints xa) ?_ rq9 ONE1.out ?_ ?_ ?_ K (ints xa) (by omega) (List.nil_append _) ?_;(simp only [Region.wanted,yielded];rfl);rfl;rfl;rfl;exact World.ownsRow_made u4 #[] 0 (Nat.le_refl _) (by unfold maxLen;omega) rfl;rfl;(unfold maxLen;omega);omega;(first|exact ((Below.refl _ _).alloc (Nat.le_refl _) _).size|exact (((Below.refl _ _).alloc (Nat.le_refl _) _).drew).size|omega);intro A8 c8 u5 ho8 hb8;(have hs8:u4.heap.size≤u5.heap.size:=Nat.le_trans (by first|exact ((Below.refl _ _).alloc (Nat.le_refl _) _).size|exact (((Below.refl _ _).alloc (Nat.le_refl _) _).drew).size) hb8.size);clear hq9 rq9)|(have hq9:=(‹_∧_∧Below _ _ _›).2.2;have rq9:=rZ.below hq9;refine step_append_W _ ?_ (.tmp 66) (.tmp 67) 37 ?_ u4.heap.size 3 i0 (.int .i64 0) 1 8 Tryz.underlying37 hi0 hz0 hz1 hz2 ?_ (by omega) (.slice A8 K c8) K (ints xa) ?_ ?_ w7.heap.size Z6 M r6 (ints xb) ?_ rq9 ONE2.out ?_ ?_ ?_ n (ints (xa++xb)) HKM2 HSUM.out ?_;(simp only [Region.wanted,yielded];rfl);rfl;rfl;rfl;exact ho8;rfl;(unfold maxLen;omega);omega;(first|exact hs8|omega);intro A9 c9 u6 ho9 hb9;clear hq9 rq9)|(go_at_call 15;have hq:=(‹_∧_∧Below _ _ _›).2.2;refine (l_sameInts u6.heap.size B6 A9 n b6 c9 (xa++xb) _ ((rX.below hq).more hq.size) (Reads.of_own ho9) (by omega)).mono ?_;rintro e u7 ⟨rfl,hu7⟩;have hs7:=hu7.size;(try simp at hs7)))
 have hB7:Below w7.heap.size w7 u7:=hq.trans (hu7.mono hq.size)
 go_wp2
 go_ret
 exact ⟨rfl,G_7.trans (hB7.mono G_7.size)⟩
end Go.Proofs.YtlimlolciekimaaGreatDoor.fnActParts
