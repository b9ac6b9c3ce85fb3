/- Contracts of the program's and the reference's functions (Act1, Act2, Area1, Area2, Area3, RoomV, Room, Work8). -/
import Derived.Deep.RegionHeld3
import Derived.Deep.Upon
import Derived.IntWalk
import Derived.WalkLawsBesides
import Derived.WalkSpells
import Derived.Test.YtlimlolciekimaaGreatDoorRows
import Derived.Test.YtlimlolciekimaaGreatDoorQUa
import Derived.Test.YtlimlolciekimaaGreatDoorQUb
import Derived.Test.YtlimlolciekimaaGreatDoorQUf
import Derived.Test.YtlimlolciekimaaGreatDoorQUn
namespace Go.Proofs.YtlimlolciekimaaGreatDoor
set_option maxHeartbeats 1600000
open Go.ChangeShapes Go.WideShapes Go.ChangeAt Go.RowKit
set_option linter.unusedVariables false
def actOk (k a b:Int):Bool :=
 if (k==1||k==2)=true then inB a 0 9&&inB b 1 15
 else if (k==4||k==6)=true then inB a 0 9&&inB b 1 1000
 else if (k==5||k==7)=true then inB a 0 9&&(b==0)
 else if (k==3||k==8)=true then (a==0)&&(b==0)
 else false
theorem i_ActOk (k a b:Int) (w:World):Calls Tryz.prog 61 #[.agg #[.int .i64 k,.int .i64 a,.int .i64 b]] w fun e w'=>e=.returned (.bool (actOk k a b))∧Below w.heap.size w w':=by
 go_enter Tryz.func61,Tryz.ntmps61
 go_wp2_with (first|(go_at_call 71;refine (i_within _ _ _ _).mono ?_;rintro e w' ⟨rfl,rfl⟩))
 all_goals
  go_ret
  exact ⟨ret_bool (by simp [actOk, *]),bel⟩
set_option maxRecDepth 10000
def nameOf (n:Int):ByteArray:=if inB n 0 9=true then ⟨#[(97+n.toNat).toUInt8,(97+n.toNat).toUInt8]⟩ else ByteArray.empty
theorem nameOf_size (n:Int):(nameOf n).size≤2:=by
 unfold nameOf
 split
 ·exact Nat.le_refl 2
 ·exact Nat.zero_le _
theorem i_NameFor (n:Int) (w:World) (h0:0≤n) (h1:n≤9):Calls Tryz.prog 30 #[.int .i64 n] w fun e w'=>e=.returned (.string (nameOf n))∧Below w.heap.size w w':=by
 have h2:n=0∨n=1∨n=2∨n=3∨n=4∨n=5∨n=6∨n=7∨n=8∨n=9:=by omega
 clear h0 h1
 rcases h2 with rfl|rfl|rfl|rfl|rfl|rfl|rfl|rfl|rfl|rfl
 all_goals
  go_enter Tryz.func30,Tryz.ntmps30
  go_wp2
  go_ret
  exact ⟨rfl,bel⟩
def sameFrame (a b:List UInt8):Bool:=(isStrip a&&isStrip b)&&((cnt 100 a==cnt 100 b)&&(cnt 102 a==cnt 102 b))
theorem strip_len {l:List UInt8} (h:isStrip l=true):cnt 100 l+cnt 102 l=l.length∧1≤cnt 100 l∧cnt 100 l≤8∧1≤cnt 102 l∧cnt 102 l≤8:=by
 unfold isStrip at h
 simp only [Bool.and_eq_true,beq_iff_eq,inB,decide_eq_true_eq] at h
 omega
theorem down_strip {l:List UInt8} (h:isStrip l=true):downOf l=cnt 100 l:=by unfold downOf;rw [if_pos h]
def hgt (u:Int):List UInt8→Int
 |[]=>u
 |c :: l=>if c=102 then hgt u l else hgt (u - 1) l
def hts (u:Int):List UInt8→List Int
 |[]=>[]
 |c :: l=>if c=102 then u :: hts u l else hts (u - 1) l
theorem hgt_snoc (u:Int) (l:List UInt8) (c:UInt8):hgt u (l++[c])=if c=102 then hgt u l else hgt u l - 1:=by
 induction l generalizing u with
 |nil=>simp [hgt]
 |cons x l ih=>simp only [List.cons_append,hgt,ih];split <;> rfl
theorem hts_snoc (u:Int) (l:List UInt8) (c:UInt8):hts u (l++[c])=hts u l++if c=102 then [hgt u l] else []:=by
 induction l generalizing u with
 |nil=>simp [hts,hgt]
 |cons x l ih=>simp only [List.cons_append,hts,hgt,ih];split <;> simp
theorem hts_len (u:Int) (l:List UInt8):(hts u l).length=cnt 102 l:=by
 induction l generalizing u with
 |nil=>rfl
 |cons x l ih =>
  simp only [hts,cnt,List.count_cons]
  split
  ·rename_i h;subst h;simp [ih,cnt]
  ·rename_i h;simp [ih,cnt,h]
theorem hgt_bd (u:Int) (l:List UInt8):u - l.length≤hgt u l∧hgt u l≤u:=by
 induction l generalizing u with
 |nil=>simp [hgt]
 |cons x l ih=>simp only [hgt,List.length_cons];split <;> (first|have:=ih u|skip) <;> have:=ih (u - 1) <;> omega
theorem hts_bd (u:Int) (l:List UInt8):∀ x∈hts u l,u - l.length≤x∧x≤u:=by
 induction l generalizing u with
 |nil=>intro x h;cases h
 |cons c l ih =>
  intro x h
  simp only [hts] at h
  split at h
  ·rcases List.mem_cons.1 h with rfl|h
   ·simp only [List.length_cons];omega
   ·have:=ih u x h;simp only [List.length_cons];omega
  ·have:=ih (u - 1) x h;simp only [List.length_cons];omega
def htsOf (l:List UInt8):List Int:=hts (cnt 100 l) l
theorem info_int:(Tryz.prog.info? 3).map (fun i=>(i.zero,i.size,i.bytes))=some (some (.int .i64 0),1,8):=by kernel_rfl
def ints (l:List Int):List Value:=l.map (Value.int .i64)
def FreshInts (base:Nat) (l:List Int) (w:World) (e:Ending) (w':World):Prop :=
 ∃ A c,e=.returned (.slice A l.length c)∧w'.ownsRow base 3 1 (.slice A l.length c) l.length (ints l)∧Below w.heap.size w w'
theorem ints_snoc (l:List Int) (x:Int):ints (l++[x])=ints l++[Value.int .i64 x]:=by simp [ints]
theorem htsOf_len (l:List UInt8):(htsOf l).length=cnt 102 l:=hts_len _ _
theorem fresh_ints {w wr:World} {N:Nat} {A:Option Addr} {c:Nat} {l:List Int} (hN:l.length=N) (ho:wr.ownsRow w.heap.size 3 1 (.slice A N c) N (ints l)) (hb:Below w.heap.size w wr):FreshInts w.heap.size l w (.returned (.slice A N c)) wr:=by
 subst hN;exact ⟨A,c,rfl,ho,hb⟩
theorem i_HeightsOf (s:ByteArray) (w:World) (hs:s.size≤16777216) (h1:isStrip s.data.toList=true) :
  Calls Tryz.prog 192 #[.string s] w (FreshInts w.heap.size (htsOf s.data.toList) w):=by
 have HD:=Lib.hid (down_strip h1)
 have hcl:=cnt_le 100 s.data.toList
 have hlen:s.data.toList.length=s.size:=by simp
 have HLEN:=Lib.hid hlen
 have hcb:(cnt 100 s.data.toList:Int)≤16777216:=by omega
 clear hcl hlen
 obtain ⟨i0,hi0,hz0,hz1,hz2⟩:=info_parts info_int
 go_enter Tryz.func192,Tryz.ntmps192
 go_wp2_with (first|(go_at_call 168;refine (i_IsStrip _ _ (by unfold maxLen;omega)).mono ?_;rintro e w' ⟨rfl,rfl⟩)|(go_at_call 119;refine (i_DownOf _ _ (by unfold maxLen;omega)).mono ?_;rw [HD.out];rintro e w' ⟨rfl,rfl⟩))
 go_loopw [3,4,14] (fun o h i wr=>∃ (k N:Nat) (A':Option Addr) (c':Nat),k≤s.size∧N≤k∧i=.int .i64 k∧o=.slice A' N c'∧h=.int .i64 (hgt (cnt 100 s.data.toList) (s.data.toList.take k))∧Hid ((hts (cnt 100 s.data.toList) (s.data.toList.take k)).length=N) ∧
   wr.ownsRow w.heap.size 3 1 (.slice A' N c') N (ints (hts (cnt 100 s.data.toList) (s.data.toList.take k)))∧Below w.heap.size w wr) (fun _ _ i _=>s.size - (intOf i).toNat)
 case atStart=>exact ⟨0,0,some ⟨w.heap.size,0,none⟩,0,Nat.zero_le _,Nat.le_refl _,rfl,rfl,by simp [hgt],by unfold Hid;simp [hts],by first|exact World.ownsRow_made w #[] 0 (Nat.le_refl _) (by unfold maxLen;omega) rfl|simpa [hts,ints] using (World.ownsRow_made (e:=3) (size:=1) w #[] 0 (Nat.le_refl _) (by unfold maxLen;omega) rfl),bel⟩
 case round =>
  obtain ⟨k,N,A',c',hk,hNk,rfl,rfl,rfl,HN,hown,hb⟩:=hrel
  have hbs:=hb.size
  have hh:=hgt_bd (cnt 100 s.data.toList) (s.data.toList.take k)
  rw [List.length_take,HLEN.out] at hh
  have hh1:-16777216≤hgt (cnt 100 s.data.toList) (s.data.toList.take k):=by omega
  have hh2:hgt (cnt 100 s.data.toList) (s.data.toList.take k)≤16777216:=by omega
  clear hh
  by_cases hlt:k<s.size
  ·have HTS:=Lib.hid (take_snoc s k hlt)
   by_cases hc:s[k]=102
   ·have hb1:((s[k].toNat:Int)==102)=true:=by rw [hc];rfl
    have HH:Hid (hgt (cnt 100 s.data.toList) (s.data.toList.take (k+1))=hgt (cnt 100 s.data.toList) (s.data.toList.take k)):=by unfold Hid;rw [HTS.out,hgt_snoc,if_pos hc]
    have HT:Hid (hts (cnt 100 s.data.toList) (s.data.toList.take (k+1))=hts (cnt 100 s.data.toList) (s.data.toList.take k)++[hgt (cnt 100 s.data.toList) (s.data.toList.take k)]):=by unfold Hid;rw [HTS.out,hts_snoc,if_pos hc]
    clear hc
    have hone:∀ u∈[Value.int .i64 (hgt (cnt 100 s.data.toList) (s.data.toList.take k))],u.oneCell'=true:=by intro u hu;simp at hu;subst hu;rfl
    have HO:=hide hone
    clear hone
    go_wp2_with (at_builtin;refine wpList_append_N _ rfl (.tmp 21) (.tmp 23) _ rfl w.heap.size 3 i0 _ 1 8 Tryz.underlying37 hi0 hz0 hz1 hz2 rfl (by omega) (.slice A' N c') N _ rfl (hown.alloc _) (wr.heap.size+1) (some ⟨wr.heap.size,0,none⟩) 1 1 [Value.int .i64 (hgt (cnt 100 s.data.toList) (s.data.toList.take k))] rfl (reads_one _ _) (unhide HO) ?_ ?_ ?_ (N+1) _ rfl (ints_snoc _ _).symm ?_;(unfold maxLen;omega);omega;(simp;omega);intro A2 c2 w3 ho3 hb3)
    go_roundw
    case rel=>exact ⟨k+1,N+1,A2,c2,by omega,by omega,by go_num,rfl,by rw [HH.out],by unfold Hid;rw [HT.out,List.length_append,HN.out];rfl,by rw [HT.out];exact ho3,bel⟩
    case measure=>simp [intOf];omega
   ·have hb1:((s[k].toNat:Int)==102)=false:=by
     rw [beq_eq_false_iff_ne];intro h;apply hc;apply UInt8.toNat_inj.1;show _=102;omega
    have HH:Hid (hgt (cnt 100 s.data.toList) (s.data.toList.take (k+1))=hgt (cnt 100 s.data.toList) (s.data.toList.take k) - 1):=by unfold Hid;rw [HTS.out,hgt_snoc,if_neg hc]
    have HT:Hid (hts (cnt 100 s.data.toList) (s.data.toList.take (k+1))=hts (cnt 100 s.data.toList) (s.data.toList.take k)):=by unfold Hid;rw [HTS.out,hts_snoc,if_neg hc,List.append_nil]
    clear hc
    go_wp2
    go_roundw
    case rel=>exact ⟨k+1,N,A',c',by omega,by omega,by go_num,rfl,by rw [HH.out],by unfold Hid;rw [HT.out];exact HN.out,by rw [HT.out];exact hown,hb⟩
    case measure=>simp [intOf];omega
  ·have hke:k=s.size:=by omega
   have ht:s.data.toList.take k=s.data.toList:=List.take_of_length_le (by rw [HLEN.out];omega)
   rw [ht] at hown HN
   have HF:=hide (fresh_ints (l:=htsOf s.data.toList) HN.out hown hb)
   clear ht hown hh1 hh2
   subst hke
   go_wp2
   go_ret
   exact unhide HF
def areaL:List Int→List Int→Int
 |a :: l,b :: m=>max (a - b) (b - a)+areaL l m
 |_,_=>0
def areaOf (s t:List UInt8):Int:=if sameFrame s t=true then areaL (htsOf s) (htsOf t) else -1
theorem hts_strip {l:List UInt8} (h:isStrip l=true):(htsOf l).length≤8∧∀ x∈htsOf l,-16≤x∧x≤16:=by
 have h1:=strip_len h
 refine ⟨by rw [htsOf_len];omega,fun x hx=>?_⟩
 have:=hts_bd _ _ x hx
 omega
theorem ints_at {w:World} {B:Nat} {A:Option Addr} {n k:Nat} {l:List Int} (h:Reads w B 1 A n (ints l)) (hk:k<n):∃ (hk':k<l.length) (ad:Addr),A=some ad∧ad.block<B∧w.cell? (ad.add k)=some (.int .i64 l[k]):=by
 obtain ⟨ad,u,rfl,hb,hx,hc⟩:=h.at_ hk
 have hl:k<l.length:=by
  have:=h.1
  simp [ints] at this
  omega
 refine ⟨hl,ad,rfl,hb,?_⟩
 rw [hc]
 unfold ints at hx
 rw [List.getElem?_map,List.getElem?_eq_getElem hl] at hx
 simpa using hx.symm
def sumL:List Int→Int
 |[]=>0
 |a :: l=>a+sumL l
theorem sumL_take (a:List Int) (k:Nat) (ha:k<a.length):sumL (a.take (k+1))=sumL (a.take k)+a[k]:=by
 induction k generalizing a with
 |zero=>match a,ha with|x :: l,_=>simp [sumL]
 |succ k ih =>
  match a,ha with
  |x :: l,ha=>simp only [List.take_succ_cons,sumL,List.getElem_cons_succ];rw [ih l (by simpa using ha)];omega
theorem sumL_bd (a:List Int) (M:Int) (hM:0≤M) (ha:∀ x∈a,-M≤x∧x≤M):-(M * a.length)≤sumL a∧sumL a≤M * a.length:=by
 induction a with
 |nil=>simp [sumL]
 |cons x l ih =>
  have h1:=ih (fun z hz=>ha z (List.mem_cons_of_mem _ hz))
  have h2:=ha x List.mem_cons_self
  simp only [sumL,List.length_cons]
  have h4:M * ((l.length+1:Nat):Int)=M * (l.length:Int)+M:=by
   rw [show ((l.length+1:Nat):Int)=(l.length:Int)+1 by omega,Int.mul_add,Int.mul_one]
  rw [h4]
  generalize M * (l.length:Int)=q at *
  omega
def roomOf (s:List UInt8):Int:=if isStrip s=true then sumL (htsOf s) else -1
theorem roomOf_yes {s:List UInt8} (h:isStrip s=true):roomOf s=sumL (htsOf s):=by unfold roomOf;rw [if_pos h]
theorem roomOf_no {s:List UInt8} (h:isStrip s=false):roomOf s = -1:=by unfold roomOf;rw [if_neg (by rw [h];simp)]
theorem roomOf_bd (s:List UInt8):-128≤roomOf s∧roomOf s≤128:=by
 cases h:isStrip s
 ·rw [roomOf_no h];omega
 ·rw [roomOf_yes h]
  obtain ⟨h1,h2⟩:=hts_strip h
  have:=sumL_bd (htsOf s) 16 (by omega) h2
  omega
theorem i_RoomUnder (s:ByteArray) (w:World) (hs:s.size≤16777216) :
  Calls Tryz.prog 138 #[.string s] w fun e w'=>e=.returned (.int .i64 (roomOf s.data.toList))∧Below w.heap.size w w':=by
 cases h1:isStrip s.data.toList
 ·have HP:=Lib.hid (roomOf_no h1)
  go_enter Tryz.func138,Tryz.ntmps138
  go_wp2_with (first|(go_at_call 168;refine (i_IsStrip _ _ (by unfold maxLen;omega)).mono ?_;rw [h1];rintro e w' ⟨rfl,rfl⟩))
  go_ret
  exact ⟨ret_int HP.out.symm,bel⟩
 ·have HP:=Lib.hid (roomOf_yes h1)
  obtain ⟨la,ba⟩:=hts_strip h1
  have hcon:=fun (W:World)=>i_HeightsOf s W hs h1
  have HCON:=hide hcon
  clear hcon
  generalize ea:htsOf s.data.toList=a at *
  generalize en:a.length=N at *
  have HA:=Lib.hid en
  have BA:=hide ba
  clear ea en ba
  go_enter Tryz.func138,Tryz.ntmps138
  go_wp2_with (first|(go_at_call 168;refine (i_IsStrip _ _ (by unfold maxLen;omega)).mono ?_;rw [h1];rintro e w' ⟨rfl,rfl⟩))
  refine (unhide HCON _).mono ?_
  unfold FreshInts
  rw [HA.out]
  rintro e w1 ⟨A1,c1,rfl,ho1,hb1⟩
  have hR1:=Reads.of_own ho1
  have hz1:=hb1.size
  clear ho1
  go_wp2
  go_loopw [3,12] (fun q i wr=>∃ k m:Nat,k≤N∧i=.int .i64 k∧q=.int .i64 (sumL (a.take k))∧wr=w1.drewN m) (fun _ i _=>N - (intOf i).toNat)
  case atStart=>exact ⟨0,0,Nat.zero_le _,rfl,by simp [sumL],rfl⟩
  case round =>
   obtain ⟨k,m,hk,rfl,rfl,rfl⟩:=hrel
   by_cases hlt:k<N
   ·obtain ⟨hk1,ad1,rfl,hab1,hc1⟩:=ints_at hR1 hlt
    have HS:=Lib.hid (sumL_take a k hk1)
    have bax:=unhide BA a[k] (List.getElem_mem hk1)
    have hbd:=sumL_bd (a.take k) 16 (by omega) (fun x hx=>unhide BA x (List.mem_of_mem_take hx))
    have htl:(a.take k).length≤k:=List.length_take_le _ _
    obtain ⟨hbda,hbdb⟩:=hbd
    obtain ⟨baxa,baxb⟩:=bax
    have hs1:-4096≤sumL (a.take k):=by omega
    have hs2:sumL (a.take k)≤4096:=by omega
    clear hbda hbdb
    generalize ex:a[k]=x at *
    go_wp2
    go_roundw
    case rel=>exact ⟨k+1,m,by omega,by go_num,by rw [HS.out],rfl⟩
    case measure=>simp [intOf];omega
   ·have hke:k=N:=by omega
    have ta:a.take k=a:=List.take_of_length_le (by have:=HA.out;omega)
    rw [ta]
    clear ta
    subst hke
    go_wp2
    go_ret
    exact ⟨ret_int HP.out.symm,bel⟩
def volL:List ByteArray→Int
 |[]=>0
 |a :: l=>roomOf a.data.toList+volL l
theorem volL_take (a:List ByteArray) (k:Nat) (ha:k<a.length):volL (a.take (k+1))=volL (a.take k)+roomOf a[k].data.toList:=by
 induction k generalizing a with
 |zero=>match a,ha with|x :: l,_=>simp [volL]
 |succ k ih =>
  match a,ha with
  |x :: l,ha=>simp only [List.take_succ_cons,volL,List.getElem_cons_succ];rw [ih l (by simpa using ha)];omega
theorem volL_bd (a:List ByteArray):-(128 * (a.length:Int))≤volL a∧volL a≤128 * a.length:=by
 induction a with
 |nil=>simp [volL]
 |cons x l ih =>
  have h2:=roomOf_bd x.data.toList
  simp only [volL,List.length_cons]
  omega
def volOf (d f:Int) (ss:List ByteArray):Int:=if cardOk d f ss=true then volL ss else -1
theorem i_VolumeOf (d f:Int) (B:Nat) (A:Option Addr) (n c:Nat) (ss:List ByteArray) (w:World) (hS:Strs w B A n ss) (hB:B≤w.heap.size) :
  Calls Tryz.prog 87 #[.agg #[.int .i64 d,.int .i64 f,.slice A n c]] w fun e w'=>e=.returned (.int .i64 (volOf d f ss))∧Below w.heap.size w w':=by
 have hn:=hS.nb
 have hS2:=hS.alloc hB (.cells #[.int .i64 d,.int .i64 f,.slice A n c] 26)
 have HL:=Lib.hid hS.len
 cases hck:cardOk d f ss
 ·have HP:=Lib.hid (show volOf d f ss = -1 by unfold volOf;rw [if_neg (by rw [hck];simp)])
  go_enter Tryz.func87,Tryz.ntmps87
  go_wp2_with (first|(go_at_call 70;refine (i_CardOk _ _ _ _ _ ss _ (hS2.more (by simp;omega))).mono ?_;rw [hck];rintro e w1 ⟨rfl,hb1⟩;obtain ⟨hcb,hfb⟩:=bcell hb1;obtain ⟨qaa,qba⟩:=zs1 (show w.heap.size<w1.heap.size by have hzz:=hb1.size;(try simp at hzz);omega)))
  go_ret
  exact ⟨ret_int HP.out.symm,bel⟩
 ·have HP:=Lib.hid (show volOf d f ss=volL ss by unfold volOf;rw [if_pos hck])
  go_enter Tryz.func87,Tryz.ntmps87
  go_wp2_with (first|(go_at_call 70;refine (i_CardOk _ _ _ _ _ ss _ (hS2.more (by simp;omega))).mono ?_;rw [hck];rintro e w1 ⟨rfl,hb1⟩;obtain ⟨hcb,hfb⟩:=bcell hb1;obtain ⟨qaa,qba⟩:=zs1 (show w.heap.size<w1.heap.size by have hzz:=hb1.size;(try simp at hzz);omega)))
  have hS3:=hS2.below (hb1.mono (by simp;omega))
  have hk1:=blk_next (blk_new w (.cells #[.int .i64 d,.int .i64 f,.slice A n c] 26)) hb1
  have hbw:Below w.heap.size w w1:=bel
  have hzz:=qaa
  clear hcb hfb
  go_loopw [3,12] (fun q i wr=>∃ k:Nat,k≤n∧i=.int .i64 k∧q=.int .i64 (volL (ss.take k))∧Below w1.heap.size w1 wr) (fun _ i _=>n - (intOf i).toNat)
  case atStart=>exact ⟨0,Nat.zero_le _,rfl,by simp [volL],Below.refl _ _⟩
  case round =>
   obtain ⟨k,hk,rfl,rfl,hb⟩:=hrel
   have hzr:=hb.size
   obtain ⟨hx0,hx1,hx2,hxl⟩:=blk3 (blk_below hk1 hb (by omega))
   have hSr:=hS3.below (hb.mono (by omega))
   by_cases hlt:k<n
   ·obtain ⟨hks,ad,rfl,hab,hc1,hsz⟩:=hSr.at_ hlt
    have HS:=Lib.hid (volL_take ss k hks)
    have hbd:=volL_bd (ss.take k)
    have htl:(ss.take k).length≤k:=List.length_take_le _ _
    have hbd2:=roomOf_bd ss[k].data.toList
    obtain ⟨hbda,hbdb⟩:=hbd
    obtain ⟨hbdc,hbdd⟩:=hbd2
    have hs1:-2147483648≤volL (ss.take k):=by omega
    have hs2:volL (ss.take k)≤2147483648:=by omega
    clear hbda hbdb
    go_wp2_with (first|(go_at_call 138;refine (i_RoomUnder _ _ hsz).mono ?_;rintro e w3 ⟨rfl,hb3⟩))
    go_roundw
    case rel=>exact ⟨k+1,by omega,by go_num,by rw [HS.out],bel⟩
    case measure=>simp [intOf];omega
   ·have hke:k=n:=by omega
    have ta:ss.take k=ss:=List.take_of_length_le (by have:=HL.out;omega)
    rw [ta]
    clear ta
    subst hke
    go_wp2
    go_ret
    exact ⟨ret_int HP.out.symm,hbw.trans (hb.mono (by omega))⟩
def gainOf (D:PDraft):Int:=if draftOk D=true then volOf D.d2 D.f2 D.ss2 - volOf D.d1 D.f1 D.ss1 else 0
set_option linter.unusedSimpArgs false
def perf (W:PWork) (k a b:Int):PWork×Bool :=
 if k=1 then shapeRes W (PStep.mk 1 a a b 0 ByteArray.empty ByteArray.empty) else if k=2 then shapeRes W (PStep.mk 2 a a b 0 ByteArray.empty ByteArray.empty) else if k=3 then unshapeRes W else if k=4 then buyRes W a b else if k=5 then keepRes W (nameOf a) else if k=6 then makeRes W (nameOf a) a b else forgetRes W (nameOf a)
theorem perf_1 (W:PWork) (a b:Int):perf W 1 a b=shapeRes W (PStep.mk 1 a a b 0 ByteArray.empty ByteArray.empty):=rfl
theorem perf_2 (W:PWork) (a b:Int):perf W 2 a b=shapeRes W (PStep.mk 2 a a b 0 ByteArray.empty ByteArray.empty):=rfl
theorem perf_3 (W:PWork) (a b:Int):perf W 3 a b=unshapeRes W:=rfl
theorem perf_4 (W:PWork) (a b:Int):perf W 4 a b=buyRes W a b:=rfl
theorem perf_5 (W:PWork) (a b:Int):perf W 5 a b=keepRes W (nameOf a):=rfl
theorem perf_6 (W:PWork) (a b:Int):perf W 6 a b=makeRes W (nameOf a) a b:=rfl
theorem perf_7 (W:PWork) (a b:Int):perf W 7 a b=forgetRes W (nameOf a):=rfl
theorem act_kinds {k a b:Int} (h:actOk k a b=true):k=1∨k=2∨k=3∨k=4∨k=5∨k=6∨k=7∨k=8:=by
 unfold actOk at h
 simp only [Bool.or_eq_true,beq_iff_eq] at h
 split at h
 ·omega
 ·split at h
  ·omega
  ·split at h
   ·omega
   ·split at h
    ·omega
    ·cases h
theorem act_a {k a b:Int} (h:actOk k a b=true):0≤a∧a≤9:=by
 unfold actOk at h
 split at h
 ·simp only [Bool.and_eq_true,inB_iff'] at h;exact h.1
 ·split at h
  ·simp only [Bool.and_eq_true,inB_iff'] at h;exact h.1
  ·split at h
   ·simp only [Bool.and_eq_true,inB_iff'] at h;exact h.1
   ·split at h
    ·simp only [Bool.and_eq_true,beq_iff_eq] at h;omega
    ·cases h
def doActRes (W:PWork) (k a b:Int):PWork×Int :=
 if workOk W=true∧actOk k a b=true then (if k=8 then (W,volOf W.D.d2 W.D.f2 W.D.ss2) else ((perf W k a b).1,if (perf W k a b).2=true then 1 else 0)) else (W,-1)
theorem act_no1 {W:PWork} {k a b:Int} (h:workOk W=false):doActRes W k a b=(W,-1):=by unfold doActRes;rw [h];simp
theorem act_no2 {W:PWork} {k a b:Int} (h:actOk k a b=false):doActRes W k a b=(W,-1):=by unfold doActRes;rw [h];simp
theorem act_8 {W:PWork} {a b:Int} (h1:workOk W=true) (h2:actOk 8 a b=true):doActRes W 8 a b=(W,volOf W.D.d2 W.D.f2 W.D.ss2):=by unfold doActRes;rw [if_pos ⟨h1,h2⟩,if_pos rfl]
theorem act_yes {W:PWork} {k a b:Int} (h1:workOk W=true) (h2:actOk k a b=true) (h8:¬k=8) (h:(perf W k a b).2=true):doActRes W k a b=((perf W k a b).1,1):=by unfold doActRes;rw [if_pos ⟨h1,h2⟩,if_neg h8,if_pos h]
theorem act_not {W:PWork} {k a b:Int} (h1:workOk W=true) (h2:actOk k a b=true) (h8:¬k=8) (h:(perf W k a b).2=false):doActRes W k a b=((perf W k a b).1,0):=by unfold doActRes;rw [if_pos ⟨h1,h2⟩,if_neg h8,h];rfl
theorem perf_ok (W:PWork) (k a b:Int) (h:OkWork W.D W.P W.pp 1048576):OkWork (perf W k a b).1.D (perf W k a b).1.P (perf W k a b).1.pp 1048576:=by
 have hs:=nameOf_size a
 unfold perf
 split
 ·exact shapeRes_ok _ _ h ⟨Nat.zero_le _,Nat.zero_le _⟩
 ·split
  ·exact shapeRes_ok _ _ h ⟨Nat.zero_le _,Nat.zero_le _⟩
  ·split
   ·exact unshapeRes_ok _ h
   ·split
    ·exact buyRes_ok _ _ _ h
    ·split
     ·exact keepRes_ok _ _ h (by omega)
     ·split
      ·exact makeRes_ok _ _ _ _ h
      ·exact forgetRes_ok _ _ h
theorem doActRes_ok (W:PWork) (k a b:Int) (h:OkWork W.D W.P W.pp 1048576):OkWork (doActRes W k a b).1.D (doActRes W k a b).1.P (doActRes W k a b).1.pp 1048576:=by
 unfold doActRes
 split
 ·split
  ·exact h
  ·exact perf_ok W k a b h
 ·exact h
theorem uwi_cast {W:PWork} {x:Int} {q:PWork×Int} {w w':World} {e:Ending} (h:q=(W,x)) (hu:UWorkI W.D.d1 W.D.f1 W.D.ss1 W.D.d2 W.D.f2 W.D.ss2 W.D.st W.P W.pp W.m x w e w'):UWorkI q.1.D.d1 q.1.D.f1 q.1.D.ss1 q.1.D.d2 q.1.D.f2 q.1.D.ss2 q.1.D.st q.1.P q.1.pp q.1.m q.2 w e w':=by subst h;exact hu
end Go.Proofs.YtlimlolciekimaaGreatDoor
