/- Contracts of the program's and the reference's functions (Ctx5). -/
import Derived.Test.YtlimlolciekimaaGreatDoorRows
import Derived.Test.YtlimlolciekimaaGreatDoorQHau
import Derived.Test.YtlimlolciekimaaGreatDoorQHan
import Derived.Test.YtlimlolciekimaaGreatDoorQHar
import Derived.Test.YtlimlolciekimaaGreatDoorQHat
import Derived.Test.YtlimlolciekimaaGreatDoorQHr
import Derived.Test.YtlimlolciekimaaGreatDoorQHas
namespace Go.Proofs.YtlimlolciekimaaGreatDoor
set_option maxHeartbeats 1600000
open Go.ChangeShapes Go.WideShapes Go.ChangeAt Go.RowKit
set_option linter.unusedVariables false
set_option linter.unusedSimpArgs false
set_option maxRecDepth 10000
section
variable {P:Program} (w:World)
theorem wpList_append_G {ops:Array Oper} {rest:List Oper} {o:Oper} {a:Act} {Q:Exit→Act→World→Prop} (hgd:o.guard=none) (s x:Operand) (t:TypeId)
  (ho:o.op=.call { callee:=.builtin .append,args:=#[s,x],argTypes:=#[t,t] })
  (base:Nat) (e:TypeId) (i:TypeInfo) (z:Value) (size bytes:Nat) (ht:P.underlying t=some (.slice e)) (hi:P.info? e=some i) (hz:i.zero=some z)
  (hsize:i.size=size) (hby:i.bytes=bytes) (hzs:z.cells.size=size) (hsz:0<size)
  (v:Value) (n:Nat) (xs:List Value) (hs:a.eval s=v) (hown:w.ownsRow base e size v n xs)
  (B:Nat) (A:Option Addr) (m c:Nat) (news:List Value) (hx:a.eval x=.slice A m c) (hr:Reads w B size A m news) (h1:∀ u∈news,u.oneCell'=true)
  (h63:n+m≤maxLen) (hbytes:(n+m) * bytes≤140737488355328) (hbase:base≤w.heap.size)
  (N:Nat) (ys:List Value) (hN:n+m=N) (hys:xs++news=ys) (h:∀ A' c' w',w'.ownsRow base e size (.slice A' N c') N ys→w.grownBy w' v.ownBlock→Below base w w'→wpList P ops Q rest (a.put o.dst (.slice A' N c')) w'):wpList P ops Q (o :: rest) a w:=by
 refine wpList_append_any w hgd s x t ho base e i z size bytes ht hi hz hsize hby hzs hsz v n xs hs hown B A m c news hx hr h1 h63 hbytes hbase ?_
 subst hN;subst hys
 intro v' w' h2 h3 h4
 obtain ⟨A',c',rfl⟩:=own_slice h2
 exact h A' c' w' h2 h3 (grown_below h3 (fun k hk=>(hown.lt k hk).1) hbase)
end
theorem one_actV (k a b:Int):∀ u∈[Value.int .i64 k,.int .i64 a,.int .i64 b],u.oneCell'=true:=by intro u hu;simp at hu;rcases hu with rfl|rfl|rfl <;> rfl
theorem acts_snocL (l:List PAct) (k a b:Int):l.flatMap actCells++[.int .i64 k,.int .i64 a,.int .i64 b]=(l++[(⟨k,a,b⟩:PAct)]).flatMap actCells:=by simp [actCells]
theorem one_strV (l:List ByteArray):∀ u∈l.map Value.string,u.oneCell'=true:=by intro u hu;obtain ⟨x,_,rfl⟩:=List.mem_map.1 hu;rfl
theorem nums_snoc (xs:List Int) {k:Nat} (hk:k<xs.length) (z:Nat) (hz:xs[k]=(z:Int)):(numsT (xs.take k)).map Value.string++[Value.string (numT z)]=(numsT (xs.take (k+1))).map Value.string:=by
 unfold numsT
 rw [List.take_succ_eq_append_getElem hk,hz]
 simp
def scrRun (s:ByteArray):List ByteArray×Bool:=match scrOut s with
 |some l=>(runT l,true)
 |none=>([],false)
theorem scrRun_no {s:ByteArray} (h:scrOut s=none):scrRun s=([],false):=by unfold scrRun;rw [h]
theorem scrRun_yes {s:ByteArray} {l:List PAct} (h:scrOut s=some l):scrRun s=(runT l,true):=by unfold scrRun;rw [h]
theorem sample_run {la:List PAct} (hl:la.length≤40) (hok:∀ x∈la,actOk x.k x.a x.b=true) :
  workOk (runRes sampleW la).1=true∧(runRes sampleW la).2.length=la.length∧(∀ x∈(runRes sampleW la).2,0≤x∧x≤1280)∧OkWork (runRes sampleW la).1.D (runRes sampleW la).1.P (runRes sampleW la).1.pp 1048576 :=
 ⟨runRes_work sampleW_ok,by rw [runRes_yes sampleW_ok hl,runAll_len];simp,runRes_num sampleW_ok hok,runRes_ok _ _ sampleW_z⟩
set_option maxHeartbeats 12800000 in
theorem i_RunScript (s:ByteArray) (w:World) (hE:Errs w) (hL:LenV w) (hz:s.size≤16777216) :
  Calls Tryz.prog 33 #[.string s] w (UStrsB (scrRun s).1 (scrRun s).2 w):=by
 by_cases hlong:20000<s.size
 ·have HR:=Lib.hid (scrRun_no (scrOut_long hlong))
  go_enter Tryz.func33,Tryz.ntmps33
  go_wp2
  go_ret2
  rw [HR.out]
  exact ⟨none,0,rfl,own_nilS _ _ _,Below.refl _ _⟩
 have hll:=lines_len s
 have hls:∀ x∈linesOf s,x.size≤20000:=fun x hx=>Nat.le_trans (lines_size hx) (by omega)
 have hN1:Lib.countB s ⟨#[10]⟩+1=(linesOf s).length:=by
  have h1:=Lib.splitB_all ⟨#[10]⟩ (by decide) 0 _ s rfl
  rw [pieces] at h1
  exact h1.symm
 have hpc:Lib.splitB ⟨#[10]⟩ 0 (Lib.countB s ⟨#[10]⟩) s=linesOf s:=pieces 10 s
 have kP:=fun (W:World) (h:LenV W)=>h.elim fun m hm=>Tryz.strings_Split s ⟨#[10]⟩ m W (by omega) hm (by decide)
 simp only [hpc,hN1] at kP
 have hBAD:=fun (h:scanL (linesOf s)=none)=>scrRun_no (scrOut_none (s:=s) h)
 have hMANY:=fun (la:List PAct) (h:scanL (linesOf s)=some la) (h2:40<la.length)=>scrRun_no (scrOut_many (s:=s) h h2)
 have hYES:=fun (la:List PAct) (h:scanL (linesOf s)=some la) (h2:la.length≤40)=>scrOut_yes (s:=s) (by omega) h h2
 obtain ⟨ls,hlse⟩:∃ ls,linesOf s=ls:=⟨_,rfl⟩
 rw [hlse] at hll hls kP hBAD hMANY hYES
 clear hlse hpc hN1
 obtain ⟨N,hN⟩:∃ N,ls.length=N:=⟨_,rfl⟩
 rw [hN] at hll kP
 have HN:=Lib.hid hN
 clear hN
 have KP:=hide kP
 have HLS:=hide hls
 have HBAD:=hide hBAD
 have HMANY:=hide hMANY
 have HYES:=hide hYES
 clear kP hls hBAD hMANY hYES
 obtain ⟨i0,hi0,hz0,hz1,hz2⟩:=info_parts info_actCells
 obtain ⟨j0,hj0,hy0,hy1,hy2⟩:=info_parts info_str
 have hO0:(w.alloc (.cells #[] 61)).ownsRow w.heap.size 61 3 (.slice (some ⟨w.heap.size,0,none⟩) 0 0) 0 []:=World.ownsRow_made w #[] 0 (Nat.le_refl _) (by unfold maxLen;omega) rfl
 have hb0:Below w.heap.size w (w.alloc (.cells #[] 61)):=(Below.refl _ _).alloc (Nat.le_refl _) _
 go_enter Tryz.func33,Tryz.ntmps33
 go_wp2_with fail
 generalize w.alloc (.cells #[] 61)=w0 at *
 have hs0:=hb0.size
 refine (KP.out w0 (hL.below hb0)).mono ?_
 clear KP
 rintro e w' ⟨rfl,rfl⟩
 have hO1:=hO0.alloc (.cells (ls.map Value.string).toArray 9)
 have hR1:(w0.alloc (.cells (ls.map Value.string).toArray 9)).ownsRow w0.heap.size 9 1 (.slice (some ⟨w0.heap.size,0,none⟩) N N) N (ls.map Value.string):=by
  have h:=World.ownsRow_lit w0 (base:=w0.heap.size) (e:=9) (size:=1) (ls.map Value.string).toArray N (Nat.le_refl _) (by unfold maxLen;omega) (by simp [HN.out])
  simpa using h
 have hb1:Below w.heap.size w (w0.alloc (.cells (ls.map Value.string).toArray 9)):=hb0.alloc hs0 _
 generalize w0.alloc (.cells (ls.map Value.string).toArray 9)=w1 at *
 obtain ⟨aL,haL⟩:∃ x,x=(⟨w0.heap.size,0,none⟩:Addr):=⟨_,rfl⟩
 rw [← haL] at hR1 ⊢
 obtain ⟨gL,hgL⟩:∃ x,x=w0.heap.size:=⟨_,rfl⟩
 rw [← hgL] at hR1
 clear hgL haL hO0 hb0 hs0
 go_wp2
 go_loopw [4,6,7,8,10,23] (fun o _ _ _ _ i wr=>∃ (k M:Nat) (la:List PAct) (A':Option Addr) (c':Nat),k≤N∧M≤k∧i=.int .i64 (k:Int)∧o=.slice A' M c'∧Hid (la.length=M)∧Hid (SC ls k la)∧wr.ownsRow w.heap.size 61 3 (.slice A' M c') M (la.flatMap actCells)∧wr.ownsRow gL 9 1 (.slice (some aL) N N) N (ls.map Value.string)∧Below w.heap.size w wr) (fun _ _ _ _ _ i _=>N - (intOf i).toNat)
 case atStart=>exact ⟨0,0,[],_,_,Nat.zero_le _,Nat.zero_le _,rfl,rfl,rfl,SC.start ls,hO1,hR1,hb1⟩
 case round =>
  clear hO1 hR1 hb1
  obtain ⟨k,M,la,A',c',hk,hMk,rfl,rfl,HLN,HSC,hown,hrow,hb⟩:=hrel
  have hzr:=hb.size
  by_cases hlt:k<N
  ·have hS:Strs wr wr.heap.size (some aL) N ls:=strs_of_own hrow (by omega) (fun x hx=>Nat.le_trans (HLS.out x hx) (by decide))
   obtain ⟨hk1,ad,had,hab,hcl,hsb⟩:=hS.at_ hlt
   have had:=Option.some.inj had
   subst had
   have hx2:=HLS.out _ (List.getElem_mem hk1)
   have hSK:=fun h1 h2=>HSC.out.skip hk1 h1 h2
   have hAC:=fun h1 h2=>HSC.out.act hk1 h1 h2
   have hBD:=fun h1 h2=>HBAD.out (HSC.out.bad hk1 h1 h2)
   obtain ⟨x,hx⟩:∃ x,ls[k]=x:=⟨_,rfl⟩
   rw [hx] at hcl hsb hx2 hSK hAC hBD
   have HSK:=hide hSK
   have HAC:=hide hAC
   have HBD:=hide hBD
   clear hx hSK hAC hBD hS
   have hEr:=hE.below hb
   go_wp2_with fail
   refine (i_SplitFields x wr hEr (by omega)).mono ?_
   rintro e w2 (⟨hf,rfl,hb2⟩|⟨hf,Af,cf,rfl,hof,hb2⟩)
   ·have HR:=Lib.hid (HBD.out (by rw [hf];simp) (by rw [hf];simp))
    have HP:=Lib.hid (lineP_no hf)
    have hb3:=hb.trans (hb2.mono hzr)
    go_wp2_with fail
    refine (i_ParseAct x w2 (hEr.below hb2) (by omega)).mono ?_
    rw [HP.out]
    simp only [actV]
    rintro e w3 ⟨rfl,hb4⟩
    have hb5:=hb3.trans (hb4.mono hb3.size)
    go_wp2
    go_ret2
    rw [HR.out]
    exact ⟨none,0,rfl,own_nilS _ _ _,hb5.alloc hb5.size _⟩
   ·have hb3:=hb.trans (hb2.mono hzr)
    have hown3:=own_below hown hb2
    have hrow3:=own_below hrow hb2
    obtain ⟨n,hn⟩:∃ n,(flds x).length=n:=⟨_,rfl⟩
    have HSK2:=hide (fun h=>HSK.out hf (List.eq_nil_of_length_eq_zero (hn.trans h)))
    have hne:1≤n→¬(fldOk x=true∧flds x=[]):=fun h q=>by rw [q.2] at hn;simp at hn;omega
    have HNE:=hide hne
    clear hne
    have HPN:=hide (fun h=>lineP_bad (s:=x) h)
    have HPY:=hide (fun h=>lineP_yes (s:=x) hf h)
    have HAC2:=hide (fun h=>HAC.out hf h)
    rw [hn] at hof ⊢
    clear hn hof HSK HAC
    by_cases hn0:n=0
    ·subst hn0
     have HS2:=Lib.hid (HSK2.out rfl)
     go_wp2
     go_roundw
     case rel=>exact ⟨k+1,M,la,A',c',by omega,by omega,by go_num,rfl,HLN,HS2,hown3,hrow3,hb3⟩
     case measure=>simp [intOf];omega
    ·have hnz:((n:Int)==0)=false:=by rw [beq_eq_false_iff_ne];omega
     cases hp:parOk (flds x)
     ·have HR:=Lib.hid (HBD.out (HNE.out (by omega)) (by rw [hp];simp))
      have HP:=Lib.hid (HPN.out hp)
      clear hp
      go_wp2_with fail
      refine (i_ParseAct x w2 (hEr.below hb2) (by omega)).mono ?_
      rw [HP.out]
      simp only [actV]
      rintro e w3 ⟨rfl,hb4⟩
      have hb5:=hb3.trans (hb4.mono hb3.size)
      go_wp2
      go_ret2
      rw [HR.out]
      exact ⟨none,0,rfl,own_nilS _ _ _,hb5.alloc hb5.size _⟩
     ·have HP:=Lib.hid (HPY.out hp)
      have HA2:=Lib.hid (HAC2.out hp)
      unfold actL at HA2
      clear hp
      obtain ⟨K,hK⟩:∃ q,pK (flds x)=q:=⟨_,rfl⟩
      obtain ⟨X,hX⟩:∃ q,pN (flds x) 1=q:=⟨_,rfl⟩
      obtain ⟨Y,hY⟩:∃ q,pN (flds x) 2=q:=⟨_,rfl⟩
      rw [hK,hX,hY] at HP HA2
      clear hK hX hY
      have HSN:=Lib.hid (acts_snocL la K X Y)
      have HONE:=hide (one_actV (K:Int) (X:Int) (Y:Int))
      go_wp2_with fail
      refine (i_ParseAct x w2 (hEr.below hb2) (by omega)).mono ?_
      rw [HP.out]
      simp only [actV]
      rintro e w3 ⟨rfl,hb4⟩
      have hb5:=hb3.trans (hb4.mono hb3.size)
      go_upto_region 12 with fail
      have kA:=blk_new w3 (.cells #[.int .i64 (K:Int),.int .i64 (X:Int),.int .i64 (Y:Int)] 61)
      have hown4:=(own_below hown3 hb4).alloc (.cells #[.int .i64 (K:Int),.int .i64 (X:Int),.int .i64 (Y:Int)] 61)
      have hrow4:=(own_below hrow3 hb4).alloc (.cells #[.int .i64 (K:Int),.int .i64 (X:Int),.int .i64 (Y:Int)] 61)
      have hb6:=hb5.alloc hb5.size (.cells #[.int .i64 (K:Int),.int .i64 (X:Int),.int .i64 (Y:Int)] 61)
      generalize w3.alloc (.cells #[.int .i64 (K:Int),.int .i64 (X:Int),.int .i64 (Y:Int)] 61)=w4 at *
      obtain ⟨bA,hbA⟩:∃ q,q=w3.heap.size:=⟨_,rfl⟩
      rw [← hbA] at kA
      try rw [← hbA]
      clear hbA hown hrow hown3 hrow3 hb2 hb4 hb3 hb5 hcl
      have hs4:=hb6.size
      obtain ⟨y0,y1,y2,yl⟩:=blk3 kA
      go_wp2_with (at_builtin;refine wpList_append_G _ rfl (.tmp 45) (.tmp 47) _ rfl w.heap.size 61 i0 _ 3 24 Tryz.underlying34 hi0 hz0 hz1 hz2 rfl (by omega) (.slice A' M c') M _ rfl (hown4.alloc _) (w4.heap.size+1) (some ⟨w4.heap.size,0,none⟩) 1 1 [.int .i64 (K:Int),.int .i64 (X:Int),.int .i64 (Y:Int)] rfl (reads_new w4 #[.int .i64 (K:Int),.int .i64 (X:Int),.int .i64 (Y:Int)] 61 1 3 rfl) (unhide HONE) ?_ ?_ ?_ (M+1) _ rfl HSN.out ?_;(unfold maxLen;omega);omega;(simp;omega);intro A2 c2 w5 ho5 hg5 hb7)
      go_roundw
      case rel =>
       have hrow5:=own_grown (hrow4.alloc (.cells #[.int .i64 (K:Int),.int .i64 (X:Int),.int .i64 (Y:Int)] 61)) hg5 (own_ne_type (hrow4.alloc (.cells #[.int .i64 (K:Int),.int .i64 (X:Int),.int .i64 (Y:Int)] 61)) (hown4.alloc (.cells #[.int .i64 (K:Int),.int .i64 (X:Int),.int .i64 (Y:Int)] 61)) (by decide))
       exact ⟨k+1,M+1,_,A2,c2,by omega,by omega,by go_num,rfl,by unfold Hid;simp [HLN.out],HA2,ho5,hrow5,(hb6.alloc hs4 _).trans hb7⟩
      case measure=>simp [intOf];omega
  ·have hkN:k=N:=by omega
   have hsc:=HSC.out.fin (by rw [HN.out];omega)
   have hok:=HSC.out.ok
   have hMN:M≤20001:=by omega
   clear hrow
   by_cases h40:40<M
   ·have HR:=Lib.hid (HMANY.out la hsc (by rw [HLN.out];exact h40))
    clear hsc hok
    go_wp2
    go_ret2
    rw [HR.out]
    exact ⟨none,0,rfl,own_nilS _ _ _,hb⟩
   ·have hlM:=HLN.out
    have hsr:=sample_run (la:=la) (by omega) hok
    have HYS:=scrRun_yes (HYES.out la hsc (by omega))
    unfold runT at HYS
    have kSW:∀ W:World,Calls Tryz.prog 34 #[] W (UWork sampleW.D.d1 sampleW.D.f1 sampleW.D.ss1 sampleW.D.d2 sampleW.D.f2 sampleW.D.ss2 sampleW.D.st sampleW.P sampleW.pp sampleW.m W):=fun W=>i_SampleWorkshop W
    have hz3:=sampleW_z
    generalize sampleW=SW at *
    obtain ⟨⟨a1,b1',sS1,a2,b2',sS2,sT⟩,sP,spp,sm⟩:=SW
    simp only at hsr HYS kSW hz3
    have kRA:=fun (W:World) (lo hi:Nat) (A1 A2 A3 A4 A5:Option Addr) (c1 c2 c3 c4 c5:Nat) (h1:OwnW W lo hi A1 c1 A2 c2 A3 c3 A4 c4 A5 c5 ⟨a1,b1',sS1,a2,b2',sS2,sT⟩ sP spp) (h2:Acts W W.heap.size A' la.length la)=>i_RunActs a1 b1' sS1 a2 b2' sS2 sT sP spp sm la W.heap.size A1 A2 A3 A4 A5 c1 c2 c3 c4 c5 A' c' W (h1.rd (hz3.more (by omega))) h2 (Nat.le_refl _) hz3
    generalize runRes _ la=R at *
    obtain ⟨⟨⟨e1,g1,ts1,e2,g2,ts2,tt⟩,Q,qq,mm⟩,xs⟩:=R
    simp only at hsr HYS kRA
    obtain ⟨hwk,hxl,hnum,hzR⟩:=hsr
    rw [hlM] at hxl
    simp only [hlM] at kRA
    have HXL:=Lib.hid hxl
    have HYSH:=Lib.hid HYS
    have HNUM:=hide hnum
    have KSW:=hide kSW
    have KRA:=hide kRA
    have HLA:=Lib.hid hlM
    clear kSW kRA hxl HYS hnum hlM hsc hok hz3
    go_wp2_with fail
    refine (KSW.out wr).mono ?_
    rintro e w2 ⟨S1,r1,S2,r2,S3,r3,S4,r4,S5,r5,rfl,oS,hb2⟩
    have hown2:=own_below hown hb2
    have BB2:=hb.trans (hb2.mono hzr)
    have hAc:Acts w2 w2.heap.size A' M la:=⟨Reads.of_own hown2,by omega⟩
    clear hown hown2 KSW
    go_wp2_with fail
    refine (KRA.out w2 _ _ S1 S2 S3 S4 S5 r1 r2 r3 r4 r5 oS hAc).mono ?_
    rintro e w3 ⟨B1,b1,B2,b2,B3,b3,B4,b4,B5,b5,B6,b6,rfl,oX,hb3⟩
    obtain ⟨l1,h1,l2,h2,hr,ha,oW,oN⟩:=oX.all
    have B3':=BB2.trans (hb3.mono BB2.size)
    have hrN:=oN.rd
    rw [HXL.out] at hrN ⊢
    clear hAc oS KRA oX oN hb2 hb3 hr ha
    go_upto_region 17 with fail
    have kW:=blk_new w3 (.cells #[.int .i64 e1,.int .i64 g1,.slice B1 ts1.length b1,.int .i64 e2,.int .i64 g2,.slice B2 ts2.length b2,.slice B3 tt.length b3,.slice B4 Q.length b4,.slice B5 qq.length b5,.int .i64 mm] 33)
    have oW4:=oW.alloc (.cells #[.int .i64 e1,.int .i64 g1,.slice B1 ts1.length b1,.int .i64 e2,.int .i64 g2,.slice B2 ts2.length b2,.slice B3 tt.length b3,.slice B4 Q.length b4,.slice B5 qq.length b5,.int .i64 mm] 33)
    have B4':=B3'.alloc B3'.size (.cells #[.int .i64 e1,.int .i64 g1,.slice B1 ts1.length b1,.int .i64 e2,.int .i64 g2,.slice B2 ts2.length b2,.slice B3 tt.length b3,.slice B4 Q.length b4,.slice B5 qq.length b5,.int .i64 mm] 33)
    have b34:Below w3.heap.size w3 (w3.alloc (.cells #[.int .i64 e1,.int .i64 g1,.slice B1 ts1.length b1,.int .i64 e2,.int .i64 g2,.slice B2 ts2.length b2,.slice B3 tt.length b3,.slice B4 Q.length b4,.slice B5 qq.length b5,.int .i64 mm] 33)):=(Below.refl _ _).alloc (Nat.le_refl _) _
    have hrN4:=(hrN.below b34).more b34.size
    generalize w3.alloc (.cells #[.int .i64 e1,.int .i64 g1,.slice B1 ts1.length b1,.int .i64 e2,.int .i64 g2,.slice B2 ts2.length b2,.slice B3 tt.length b3,.slice B4 Q.length b4,.slice B5 qq.length b5,.int .i64 mm] 33)=w4 at *
    obtain ⟨bW,hbW⟩:∃ q,q=w3.heap.size:=⟨_,rfl⟩
    rw [← hbW] at kW
    try rw [← hbW]
    clear hbW oW BB2 B3' b34 hrN hb
    have hOut:(w4.alloc (.cells #[] 9)).ownsRow w4.heap.size 9 1 (.slice (some ⟨w4.heap.size,0,none⟩) 0 0) 0 []:=World.ownsRow_made w4 #[] 0 (Nat.le_refl _) (by unfold maxLen;omega) rfl
    have b45:Below w4.heap.size w4 (w4.alloc (.cells #[] 9)):=(Below.refl _ _).alloc (Nat.le_refl _) _
    have hz4:=B4'.size
    go_wp2
    go_loopw [13,15,62] (fun o _ i wr=>∃ (k:Nat) (Ao:Option Addr) (co:Nat),k≤M∧i=.int .i64 (k:Int)∧o=.slice Ao k co∧wr.ownsRow w4.heap.size 9 1 (.slice Ao k co) k ((numsT (xs.take k)).map Value.string)∧Below w4.heap.size w4 wr) (fun _ _ i _=>M - (intOf i).toNat)
    case atStart=>exact ⟨0,_,_,Nat.zero_le _,rfl,rfl,(by unfold numsT;simpa using hOut),b45⟩
    case round =>
     clear hOut b45
     obtain ⟨k,Ao,co,hkM,rfl,rfl,hro,hbq⟩:=hrel
     have hzq:=hbq.size
     by_cases hlt2:k<M
     ·obtain ⟨hk1,ad,rfl,hab,hcx⟩:=ints_at (hrN4.below hbq) hlt2
      have hnx:=HNUM.out _ (List.getElem_mem hk1)
      obtain ⟨z,hz9⟩:∃ z:Nat,xs[k]=(z:Int):=⟨xs[k].toNat,by omega⟩
      have HSN:=Lib.hid (nums_snoc xs hk1 z hz9)
      rw [hz9] at hcx hnx
      have HONE:=hide (one_strV [numT z])
      clear hz9
      go_wp2_with fail
      refine (i_FormatInt z wr (by omega) ((hE.tab.below B4').below hbq)).mono ?_
      rintro e w6 ⟨rfl,hb6⟩
      have hro6:=own_below hro hb6
      have B46:=hbq.trans (hb6.mono hzq)
      have hz6:=B46.size
      clear hro hb6 hbq
      go_wp2_with (at_builtin;refine wpList_append_N _ rfl (.tmp 66) (.tmp 69) _ rfl w4.heap.size 9 j0 _ 1 16 Tryz.underlying24 hj0 hy0 hy1 hy2 rfl (by omega) (.slice Ao k co) k _ rfl (hro6.alloc _) (_+1) (some ⟨_,0,none⟩) 1 1 [Value.string (numT z)] rfl (reads_one _ _) (unhide HONE) ?_ ?_ ?_ (k+1) _ rfl HSN.out ?_;(unfold maxLen;omega);omega;(simp;omega);intro A7 c7 w7 ho7 hb7)
      go_roundw
      case rel=>exact ⟨k+1,A7,c7,by omega,by go_num,rfl,ho7,(B46.alloc hz6 _).trans hb7⟩
      case measure=>simp [intOf];omega
     ·have hkM2:k=M:=by omega
      subst hkM2
      have hxt:xs.take k=xs:=List.take_of_length_le (by rw [HXL.out];exact Nat.le_refl _)
      rw [hxt] at hro
      clear hxt hrN4
      have kq:=blk_below kW hbq (blk_lt kW)
      have oWq:=oW4.below hbq
      have Bq:=B4'.trans (hbq.mono hz4)
      have hsl:(shopT ⟨⟨e1,g1,ts1,e2,g2,ts2,tt⟩,Q,qq,mm⟩).length=5:=rfl
      have kF:=fun (W:World) (h:OwnW W l1 h1 B1 b1 B2 b2 B3 b3 B4 b4 B5 b5 ⟨e1,g1,ts1,e2,g2,ts2,tt⟩ Q qq) (hT:Tab W)=>i_FormatWorkshop e1 g1 ts1 e2 g2 ts2 tt Q qq mm l1 h1 B1 B2 B3 B4 B5 b1 b2 b3 b4 b5 W h hzR hwk hT
      generalize shopT ⟨⟨e1,g1,ts1,e2,g2,ts2,tt⟩,Q,qq,mm⟩=sh at *
      have KF:=hide kF
      have HSL:=Lib.hid hsl
      clear kF hwk hzR oW4 kW hsl
      obtain ⟨x0,x1,x2,x3,x4,x5,x6,x7,x8,x9,xl⟩:=blk10 kq
      go_wp2_with fail
      refine (KF.out wr oWq (hE.tab.below Bq)).mono ?_
      rintro e w8 ⟨Ar,cr,rfl,hrr,hb8⟩
      rw [HSL.out] at hrr ⊢
      have hro8:=own_below hro hb8
      have B48:=hbq.trans (hb8.mono hzq)
      have hz8:=B48.size
      have HSM:=Lib.hid (show (numsT xs).map Value.string++sh.map Value.string=(numsT xs++sh).map Value.string by simp)
      have HONE:=hide (one_strV sh)
      have hrd8:=Reads.of_own hrr
      clear x0 x1 x2 x3 x4 x5 x6 x7 x8 x9 xl hro hb8 kq oWq hrr KF
      go_wp2_with (at_builtin;refine wpList_append_N _ rfl (.tmp 72) (.tmp 74) _ rfl w4.heap.size 9 j0 _ 1 16 Tryz.underlying24 hj0 hy0 hy1 hy2 rfl (by omega) (.slice Ao k co) k _ rfl hro8 w8.heap.size Ar 5 cr (sh.map Value.string) rfl hrd8 (unhide HONE) ?_ ?_ hz8 (k+5) _ rfl HSM.out ?_;(unfold maxLen;omega);omega;intro A9 c9 w9 ho9 hb9)
      go_ret2
      have hlen:(numsT xs++sh).length=k+5:=by rw [List.length_append,HSL.out];unfold numsT;rw [List.length_map,HXL.out]
      have B49:=B48.trans hb9
      rw [HYSH.out]
      exact ⟨A9,c9,by rw [hlen];rfl,⟨by rw [hlen];exact own_base ho9 hz4,fun q hq=>by rw [hlen] at hq;exact (ho9.lt q hq).2⟩,B4'.trans (B49.mono hz4)⟩
end Go.Proofs.YtlimlolciekimaaGreatDoor
