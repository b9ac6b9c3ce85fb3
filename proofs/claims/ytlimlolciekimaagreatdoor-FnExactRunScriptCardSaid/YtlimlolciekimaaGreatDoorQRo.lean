/- Contracts of the program's and the reference's functions (Act1, Act2, Area1, Area2, Area3, RoomV, Room, Work8). -/
import Derived.Deep.RegionHeld3
import Derived.Deep.Upon
import Derived.IntWalk
import Derived.WalkLawsBesides
import Derived.WalkSpells
import Derived.Test.YtlimlolciekimaaGreatDoorRows
import Derived.Test.YtlimlolciekimaaGreatDoorQRa
import Derived.Test.YtlimlolciekimaaGreatDoorQRb
import Derived.Test.YtlimlolciekimaaGreatDoorQRf
import Derived.Test.YtlimlolciekimaaGreatDoorQRn
namespace Go.Proofs.YtlimlolciekimaaGreatDoor
set_option maxHeartbeats 1600000
open Go.ChangeShapes Go.WideShapes Go.ChangeAt Go.RowKit
set_option linter.unusedVariables false
def ZaW (k a b:Int):Bool :=
 if (k==1||k==2)=true then inB a 0 9&&inB b 1 15
 else if (k==4||k==6)=true then inB a 0 9&&inB b 1 1000
 else if (k==5||k==7)=true then inB a 0 9&&(b==0)
 else if (k==3||k==8)=true then (a==0)&&(b==0)
 else false
theorem Zdf (k a b:Int) (w:World):Calls Tryz.prog 61 #[.agg #[.int .i64 k,.int .i64 a,.int .i64 b]] w fun e w'=>e=.returned (.bool (ZaW k a b))∧Below w.heap.size w w':=by
 go_enter Tryz.func61,Tryz.ntmps61
 go_wp2_with (first|(go_at_call 71;refine (Zbl _ _ _ _).mono ?_;rintro e w' ⟨rfl,rfl⟩))
 all_goals
  go_ret
  exact ⟨Zo (by simp [ZaW, *]),bel⟩
theorem Zdi (k a b:Int) (w:World):Calls Tryz.prog 171 #[.agg #[.int .i64 k,.int .i64 a,.int .i64 b]] w fun e w'=>e=.returned (.bool (ZaW k a b))∧Below w.heap.size w w':=by
 go_enter Tryz.func171,Tryz.ntmps171
 go_wp2_with (first|(go_at_call 95;refine (Zbc _ _ _ _).mono ?_;rintro e w' ⟨rfl,rfl⟩))
 all_goals
  go_ret
  exact ⟨Zo (by simp [ZaW, *]),bel⟩
set_option maxRecDepth 10000
def ZcN (n:Int):ByteArray:=if inB n 0 9=true then ⟨#[(97+n.toNat).toUInt8,(97+n.toNat).toUInt8]⟩ else ByteArray.empty
theorem Zdm (n:Int):(ZcN n).size≤2:=by
 unfold ZcN
 split
 ·exact Nat.le_refl 2
 ·exact Nat.zero_le _
theorem ZgM (n:Int) (w:World) (h0:0≤n) (h1:n≤9):Calls Tryz.prog 30 #[.int .i64 n] w fun e w'=>e=.returned (.string (ZcN n))∧Below w.heap.size w w':=by
 have h2:n=0∨n=1∨n=2∨n=3∨n=4∨n=5∨n=6∨n=7∨n=8∨n=9:=by omega
 clear h0 h1
 rcases h2 with rfl|rfl|rfl|rfl|rfl|rfl|rfl|rfl|rfl|rfl
 all_goals
  go_enter Tryz.func30,Tryz.ntmps30
  go_wp2
  go_ret
  exact ⟨rfl,bel⟩
theorem ZnA (n:Int) (w:World) (h0:0≤n) (h1:n≤9):Calls Tryz.prog 176 #[.int .i64 n] w fun e w'=>e=.returned (.string (ZcN n))∧Below w.heap.size w w':=by
 have h2:n=0∨n=1∨n=2∨n=3∨n=4∨n=5∨n=6∨n=7∨n=8∨n=9:=by omega
 clear h0 h1
 rcases h2 with rfl|rfl|rfl|rfl|rfl|rfl|rfl|rfl|rfl|rfl
 all_goals
  go_enter Tryz.func176,Tryz.ntmps176
  go_wp2
  go_ret
  exact ⟨rfl,bel⟩
def Zm0 (a b:List UInt8):Bool:=(Zar a&&Zar b)&&((cnt 100 a==cnt 100 b)&&(cnt 102 a==cnt 102 b))
theorem Zm3 {l:List UInt8} (h:Zar l=true):cnt 100 l+cnt 102 l=l.length∧1≤cnt 100 l∧cnt 100 l≤8∧1≤cnt 102 l∧cnt 102 l≤8:=by
 unfold Zar at h
 simp only [Bool.and_eq_true,beq_iff_eq,inB,decide_eq_true_eq] at h
 omega
theorem Zk8 {l:List UInt8} (h:Zar l=true):ZcF l=cnt 100 l:=by unfold ZcF;rw [if_pos h]
def hgt (u:Int):List UInt8→Int
 |[]=>u
 |c :: l=>if c=102 then hgt u l else hgt (u - 1) l
def hts (u:Int):List UInt8→List Int
 |[]=>[]
 |c :: l=>if c=102 then u :: hts u l else hts (u - 1) l
theorem Zgb (u:Int) (l:List UInt8) (c:UInt8):hgt u (l++[c])=if c=102 then hgt u l else hgt u l - 1:=by
 induction l generalizing u with
 |nil=>simp [hgt]
 |cons x l ih=>simp only [List.cons_append,hgt,ih];split <;> rfl
theorem ZfX (u:Int) (l:List UInt8) (c:UInt8):hts u (l++[c])=hts u l++if c=102 then [hgt u l] else []:=by
 induction l generalizing u with
 |nil=>simp [hts,hgt]
 |cons x l ih=>simp only [List.cons_append,hts,hgt,ih];split <;> simp
theorem ZoV (u:Int) (l:List UInt8):(hts u l).length=cnt 102 l:=by
 induction l generalizing u with
 |nil=>rfl
 |cons x l ih =>
  simp only [hts,cnt,List.count_cons]
  split
  ·rename_i h;subst h;simp [ih,cnt]
  ·rename_i h;simp [ih,cnt,h]
theorem ZnE (u:Int) (l:List UInt8):u - l.length≤hgt u l∧hgt u l≤u:=by
 induction l generalizing u with
 |nil=>simp [hgt]
 |cons x l ih=>simp only [hgt,List.length_cons];split <;> (first|have:=ih u|skip) <;> have:=ih (u - 1) <;> omega
theorem ZpI (u:Int) (l:List UInt8):∀ x∈hts u l,u - l.length≤x∧x≤u:=by
 induction l generalizing u with
 |nil=>intro x h;cases h
 |cons c l ih =>
  intro x h
  simp only [hts] at h
  split at h
  ·rcases List.mem_cons.1 h with rfl|h
   ·simp only [List.length_cons];omega
   ·have:=ih u x h;simp only [List.length_cons];omega
  ·have:=ih (u - 1) x h;simp only [List.length_cons];omega
def ZdX (l:List UInt8):List Int:=hts (cnt 100 l) l
theorem Zf2:(Tryz.prog.info? 3).map (fun i=>(i.zero,i.size,i.bytes))=some (some (.int .i64 0),1,8):=by kernel_rfl
def Zd7 (l:List Int):List Value:=l.map (Value.int .i64)
def Zeq (base:Nat) (l:List Int) (w:World) (e:Ending) (w':World):Prop :=
 ∃ A c,e=.returned (.slice A l.length c)∧w'.ownsRow base 3 1 (.slice A l.length c) l.length (Zd7 l)∧Below w.heap.size w w'
theorem Zjr (l:List Int) (x:Int):Zd7 (l++[x])=Zd7 l++[Value.int .i64 x]:=by simp [Zd7]
theorem Zm6 (l:List UInt8):(ZdX l).length=cnt 102 l:=ZoV _ _
theorem Zii {w wr:World} {N:Nat} {A:Option Addr} {c:Nat} {l:List Int} (hN:l.length=N) (ho:wr.ownsRow w.heap.size 3 1 (.slice A N c) N (Zd7 l)) (hb:Below w.heap.size w wr):Zeq w.heap.size l w (.returned (.slice A N c)) wr:=by
 subst hN;exact ⟨A,c,rfl,ho,hb⟩
theorem ZkC (s:ByteArray) (w:World) (hs:s.size≤16777216) (h1:Zar s.data.toList=true) :
  Calls Tryz.prog 192 #[.string s] w (Zeq w.heap.size (ZdX s.data.toList) w):=by
 have HD:=Lib.hid (Zk8 h1)
 have hcl:=Zfz 100 s.data.toList
 have hlen:s.data.toList.length=s.size:=by simp
 have HLEN:=Lib.hid hlen
 have hcb:(cnt 100 s.data.toList:Int)≤16777216:=by omega
 clear hcl hlen
 obtain ⟨i0,hi0,hz0,hz1,hz2⟩:=info_parts Zf2
 go_enter Tryz.func192,Tryz.ntmps192
 go_wp2_with (first|(go_at_call 168;refine (Zda _ _ (by unfold maxLen;omega)).mono ?_;rintro e w' ⟨rfl,rfl⟩)|(go_at_call 119;refine (ZkV _ _ (by unfold maxLen;omega)).mono ?_;rw [HD.out];rintro e w' ⟨rfl,rfl⟩))
 go_loopw [3,4,14] (fun o h i wr=>∃ (k N:Nat) (A':Option Addr) (c':Nat),k≤s.size∧N≤k∧i=.int .i64 k∧o=.slice A' N c'∧h=.int .i64 (hgt (cnt 100 s.data.toList) (s.data.toList.take k))∧Hid ((hts (cnt 100 s.data.toList) (s.data.toList.take k)).length=N) ∧
   wr.ownsRow w.heap.size 3 1 (.slice A' N c') N (Zd7 (hts (cnt 100 s.data.toList) (s.data.toList.take k)))∧Below w.heap.size w wr) (fun _ _ i _=>s.size - (intOf i).toNat)
 case atStart=>exact ⟨0,0,some ⟨w.heap.size,0,none⟩,0,Nat.zero_le _,Nat.le_refl _,rfl,rfl,by simp [hgt],by unfold Hid;simp [hts],by first|exact World.ownsRow_made w #[] 0 (Nat.le_refl _) (by unfold maxLen;omega) rfl|simpa [hts,Zd7] using (World.ownsRow_made (e:=3) (size:=1) w #[] 0 (Nat.le_refl _) (by unfold maxLen;omega) rfl),bel⟩
 case round =>
  obtain ⟨k,N,A',c',hk,hNk,rfl,rfl,rfl,HN,hown,hb⟩:=hrel
  have hbs:=hb.size
  have hh:=ZnE (cnt 100 s.data.toList) (s.data.toList.take k)
  rw [List.length_take,HLEN.out] at hh
  have hh1:-16777216≤hgt (cnt 100 s.data.toList) (s.data.toList.take k):=by omega
  have hh2:hgt (cnt 100 s.data.toList) (s.data.toList.take k)≤16777216:=by omega
  clear hh
  by_cases hlt:k<s.size
  ·have HTS:=Lib.hid (Zcy s k hlt)
   by_cases hc:s[k]=102
   ·have hb1:((s[k].toNat:Int)==102)=true:=by rw [hc];rfl
    have HH:Hid (hgt (cnt 100 s.data.toList) (s.data.toList.take (k+1))=hgt (cnt 100 s.data.toList) (s.data.toList.take k)):=by unfold Hid;rw [HTS.out,Zgb,if_pos hc]
    have HT:Hid (hts (cnt 100 s.data.toList) (s.data.toList.take (k+1))=hts (cnt 100 s.data.toList) (s.data.toList.take k)++[hgt (cnt 100 s.data.toList) (s.data.toList.take k)]):=by unfold Hid;rw [HTS.out,ZfX,if_pos hc]
    clear hc
    have hone:∀ u∈[Value.int .i64 (hgt (cnt 100 s.data.toList) (s.data.toList.take k))],u.oneCell'=true:=by intro u hu;simp at hu;subst hu;rfl
    have HO:=Zk hone
    clear hone
    go_wp2_with (at_builtin;refine Zay _ rfl (.tmp 21) (.tmp 23) _ rfl w.heap.size 3 i0 _ 1 8 Tryz.underlying37 hi0 hz0 hz1 hz2 rfl (by omega) (.slice A' N c') N _ rfl (hown.alloc _) (wr.heap.size+1) (some ⟨wr.heap.size,0,none⟩) 1 1 [Value.int .i64 (hgt (cnt 100 s.data.toList) (s.data.toList.take k))] rfl (Zc7 _ _) (Ze HO) ?_ ?_ ?_ (N+1) _ rfl (Zjr _ _).symm ?_;(unfold maxLen;omega);omega;(simp;omega);intro A2 c2 w3 ho3 hb3)
    go_roundw
    case rel=>exact ⟨k+1,N+1,A2,c2,by omega,by omega,by go_num,rfl,by rw [HH.out],by unfold Hid;rw [HT.out,List.length_append,HN.out];rfl,by rw [HT.out];exact ho3,bel⟩
    case measure=>simp [intOf];omega
   ·have hb1:((s[k].toNat:Int)==102)=false:=by
     rw [beq_eq_false_iff_ne];intro h;apply hc;apply UInt8.toNat_inj.1;show _=102;omega
    have HH:Hid (hgt (cnt 100 s.data.toList) (s.data.toList.take (k+1))=hgt (cnt 100 s.data.toList) (s.data.toList.take k) - 1):=by unfold Hid;rw [HTS.out,Zgb,if_neg hc]
    have HT:Hid (hts (cnt 100 s.data.toList) (s.data.toList.take (k+1))=hts (cnt 100 s.data.toList) (s.data.toList.take k)):=by unfold Hid;rw [HTS.out,ZfX,if_neg hc,List.append_nil]
    clear hc
    go_wp2
    go_roundw
    case rel=>exact ⟨k+1,N,A',c',by omega,by omega,by go_num,rfl,by rw [HH.out],by unfold Hid;rw [HT.out];exact HN.out,by rw [HT.out];exact hown,hb⟩
    case measure=>simp [intOf];omega
  ·have hke:k=s.size:=by omega
   have ht:s.data.toList.take k=s.data.toList:=List.take_of_length_le (by rw [HLEN.out];omega)
   rw [ht] at hown HN
   have HF:=Zk (Zii (l:=ZdX s.data.toList) HN.out hown hb)
   clear ht hown hh1 hh2
   subst hke
   go_wp2
   go_ret
   exact Ze HF
theorem ZjC (s:ByteArray) (w:World) (hs:s.size≤16777216) :
  Calls Tryz.prog 263 #[.string s] w (Zeq w.heap.size (ZdX s.data.toList) w):=by
 have hcl:=Zfz 100 s.data.toList
 have hlen:s.data.toList.length=s.size:=by simp
 have HLEN:=Lib.hid hlen
 have hcb:(cnt 100 s.data.toList:Int)≤16777216:=by omega
 clear hcl hlen
 obtain ⟨i0,hi0,hz0,hz1,hz2⟩:=info_parts Zf2
 go_enter Tryz.func263,Tryz.ntmps263
 go_wp2_with (first|(go_at_call 205;refine (ZfJ s 100 _ (by unfold maxLen;omega)).mono ?_;rintro e w' ⟨rfl,rfl⟩))
 go_loopw [3,4,5] (fun o h i wr=>∃ (k N:Nat) (A':Option Addr) (c':Nat),k≤s.size∧N≤k∧i=.int .i64 k∧o=.slice A' N c'∧h=.int .i64 (hgt (cnt 100 s.data.toList) (s.data.toList.take k))∧Hid ((hts (cnt 100 s.data.toList) (s.data.toList.take k)).length=N) ∧
   wr.ownsRow w.heap.size 3 1 (.slice A' N c') N (Zd7 (hts (cnt 100 s.data.toList) (s.data.toList.take k)))∧Below w.heap.size w wr) (fun _ _ i _=>s.size - (intOf i).toNat)
 case atStart=>exact ⟨0,0,some ⟨w.heap.size,0,none⟩,0,Nat.zero_le _,Nat.le_refl _,rfl,rfl,by simp [hgt],by unfold Hid;simp [hts],by first|exact World.ownsRow_made w #[] 0 (Nat.le_refl _) (by unfold maxLen;omega) rfl|simpa [hts,Zd7] using (World.ownsRow_made (e:=3) (size:=1) w #[] 0 (Nat.le_refl _) (by unfold maxLen;omega) rfl),bel⟩
 case round =>
  obtain ⟨k,N,A',c',hk,hNk,rfl,rfl,rfl,HN,hown,hb⟩:=hrel
  have hbs:=hb.size
  have hh:=ZnE (cnt 100 s.data.toList) (s.data.toList.take k)
  rw [List.length_take,HLEN.out] at hh
  have hh1:-16777216≤hgt (cnt 100 s.data.toList) (s.data.toList.take k):=by omega
  have hh2:hgt (cnt 100 s.data.toList) (s.data.toList.take k)≤16777216:=by omega
  clear hh
  by_cases hlt:k<s.size
  ·have HTS:=Lib.hid (Zcy s k hlt)
   by_cases hc:s[k]=102
   ·have hb1:((s[k].toNat:Int)==102)=true:=by rw [hc];rfl
    have HH:Hid (hgt (cnt 100 s.data.toList) (s.data.toList.take (k+1))=hgt (cnt 100 s.data.toList) (s.data.toList.take k)):=by unfold Hid;rw [HTS.out,Zgb,if_pos hc]
    have HT:Hid (hts (cnt 100 s.data.toList) (s.data.toList.take (k+1))=hts (cnt 100 s.data.toList) (s.data.toList.take k)++[hgt (cnt 100 s.data.toList) (s.data.toList.take k)]):=by unfold Hid;rw [HTS.out,ZfX,if_pos hc]
    clear hc
    have hone:∀ u∈[Value.int .i64 (hgt (cnt 100 s.data.toList) (s.data.toList.take k))],u.oneCell'=true:=by intro u hu;simp at hu;subst hu;rfl
    have HO:=Zk hone
    clear hone
    go_wp2_with (at_builtin;refine Zay _ rfl (.tmp 19) (.tmp 21) _ rfl w.heap.size 3 i0 _ 1 8 Tryz.underlying37 hi0 hz0 hz1 hz2 rfl (by omega) (.slice A' N c') N _ rfl (hown.alloc _) (wr.heap.size+1) (some ⟨wr.heap.size,0,none⟩) 1 1 [Value.int .i64 (hgt (cnt 100 s.data.toList) (s.data.toList.take k))] rfl (Zc7 _ _) (Ze HO) ?_ ?_ ?_ (N+1) _ rfl (Zjr _ _).symm ?_;(unfold maxLen;omega);omega;(simp;omega);intro A2 c2 w3 ho3 hb3)
    go_roundw
    case rel=>exact ⟨k+1,N+1,A2,c2,by omega,by omega,by go_num,rfl,by rw [HH.out],by unfold Hid;rw [HT.out,List.length_append,HN.out];rfl,by rw [HT.out];exact ho3,bel⟩
    case measure=>simp [intOf];omega
   ·have hb1:((s[k].toNat:Int)==102)=false:=by
     rw [beq_eq_false_iff_ne];intro h;apply hc;apply UInt8.toNat_inj.1;show _=102;omega
    have HH:Hid (hgt (cnt 100 s.data.toList) (s.data.toList.take (k+1))=hgt (cnt 100 s.data.toList) (s.data.toList.take k) - 1):=by unfold Hid;rw [HTS.out,Zgb,if_neg hc]
    have HT:Hid (hts (cnt 100 s.data.toList) (s.data.toList.take (k+1))=hts (cnt 100 s.data.toList) (s.data.toList.take k)):=by unfold Hid;rw [HTS.out,ZfX,if_neg hc,List.append_nil]
    clear hc
    go_wp2
    go_roundw
    case rel=>exact ⟨k+1,N,A',c',by omega,by omega,by go_num,rfl,by rw [HH.out],by unfold Hid;rw [HT.out];exact HN.out,by rw [HT.out];exact hown,hb⟩
    case measure=>simp [intOf];omega
  ·have hke:k=s.size:=by omega
   have ht:s.data.toList.take k=s.data.toList:=List.take_of_length_le (by rw [HLEN.out];omega)
   rw [ht] at hown HN
   have HF:=Zk (Zii (l:=ZdX s.data.toList) HN.out hown hb)
   clear ht hown hh1 hh2
   subst hke
   go_wp2
   go_ret
   exact Ze HF
def Zpb:List Int→List Int→Int
 |a :: l,b :: m=>max (a - b) (b - a)+Zpb l m
 |_,_=>0
def Zqx (s t:List UInt8):Int:=if Zm0 s t=true then Zpb (ZdX s) (ZdX t) else -1
theorem ZgK {l:List UInt8} (h:Zar l=true):(ZdX l).length≤8∧∀ x∈ZdX l,-16≤x∧x≤16:=by
 have h1:=Zm3 h
 refine ⟨by rw [Zm6];omega,fun x hx=>?_⟩
 have:=ZpI _ _ x hx
 omega
theorem Zhu {w:World} {B:Nat} {A:Option Addr} {n k:Nat} {l:List Int} (h:Zal w B 1 A n (Zd7 l)) (hk:k<n):∃ (hk':k<l.length) (ad:Addr),A=some ad∧ad.block<B∧w.cell? (ad.add k)=some (.int .i64 l[k]):=by
 obtain ⟨ad,u,rfl,hb,hx,hc⟩:=h.at_ hk
 have hl:k<l.length:=by
  have:=h.1
  simp [Zd7] at this
  omega
 refine ⟨hl,ad,rfl,hb,?_⟩
 rw [hc]
 unfold Zd7 at hx
 rw [List.getElem?_map,List.getElem?_eq_getElem hl] at hx
 simpa using hx.symm
def ZdU:List Int→Int
 |[]=>0
 |a :: l=>a+ZdU l
theorem Zi5 (a:List Int) (k:Nat) (ha:k<a.length):ZdU (a.take (k+1))=ZdU (a.take k)+a[k]:=by
 induction k generalizing a with
 |zero=>match a,ha with|x :: l,_=>simp [ZdU]
 |succ k ih =>
  match a,ha with
  |x :: l,ha=>simp only [List.take_succ_cons,ZdU,List.getElem_cons_succ];rw [ih l (by simpa using ha)];omega
theorem ZjN (a:List Int) (M:Int) (hM:0≤M) (ha:∀ x∈a,-M≤x∧x≤M):-(M * a.length)≤ZdU a∧ZdU a≤M * a.length:=by
 induction a with
 |nil=>simp [ZdU]
 |cons x l ih =>
  have h1:=ih (fun z hz=>ha z (List.mem_cons_of_mem _ hz))
  have h2:=ha x List.mem_cons_self
  simp only [ZdU,List.length_cons]
  have h4:M * ((l.length+1:Nat):Int)=M * (l.length:Int)+M:=by
   rw [show ((l.length+1:Nat):Int)=(l.length:Int)+1 by omega,Int.mul_add,Int.mul_one]
  rw [h4]
  generalize M * (l.length:Int)=q at *
  omega
def ZdJ (s:List UInt8):Int:=if Zar s=true then ZdU (ZdX s) else -1
theorem ZeH {s:List UInt8} (h:Zar s=true):ZdJ s=ZdU (ZdX s):=by unfold ZdJ;rw [if_pos h]
theorem ZgQ {s:List UInt8} (h:Zar s=false):ZdJ s = -1:=by unfold ZdJ;rw [if_neg (by rw [h];simp)]
theorem ZgR (s:List UInt8):-128≤ZdJ s∧ZdJ s≤128:=by
 cases h:Zar s
 ·rw [ZgQ h];omega
 ·rw [ZeH h]
  obtain ⟨h1,h2⟩:=ZgK h
  have:=ZjN (ZdX s) 16 (by omega) h2
  omega
theorem ZkL (s:ByteArray) (w:World) (hs:s.size≤16777216) :
  Calls Tryz.prog 138 #[.string s] w fun e w'=>e=.returned (.int .i64 (ZdJ s.data.toList))∧Below w.heap.size w w':=by
 cases h1:Zar s.data.toList
 ·have HP:=Lib.hid (ZgQ h1)
  go_enter Tryz.func138,Tryz.ntmps138
  go_wp2_with (first|(go_at_call 168;refine (Zda _ _ (by unfold maxLen;omega)).mono ?_;rw [h1];rintro e w' ⟨rfl,rfl⟩))
  go_ret
  exact ⟨ZbO HP.out.symm,bel⟩
 ·have HP:=Lib.hid (ZeH h1)
  obtain ⟨la,ba⟩:=ZgK h1
  have hcon:=fun (W:World)=>ZkC s W hs h1
  have HCON:=Zk hcon
  clear hcon
  generalize ea:ZdX s.data.toList=a at *
  generalize en:a.length=N at *
  have HA:=Lib.hid en
  have BA:=Zk ba
  clear ea en ba
  go_enter Tryz.func138,Tryz.ntmps138
  go_wp2_with (first|(go_at_call 168;refine (Zda _ _ (by unfold maxLen;omega)).mono ?_;rw [h1];rintro e w' ⟨rfl,rfl⟩))
  refine (Ze HCON _).mono ?_
  unfold Zeq
  rw [HA.out]
  rintro e w1 ⟨A1,c1,rfl,ho1,hb1⟩
  have hR1:=Zal.of_own ho1
  have hz1:=hb1.size
  clear ho1
  go_wp2
  go_loopw [3,12] (fun q i wr=>∃ k m:Nat,k≤N∧i=.int .i64 k∧q=.int .i64 (ZdU (a.take k))∧wr=w1.drewN m) (fun _ i _=>N - (intOf i).toNat)
  case atStart=>exact ⟨0,0,Nat.zero_le _,rfl,by simp [ZdU],rfl⟩
  case round =>
   obtain ⟨k,m,hk,rfl,rfl,rfl⟩:=hrel
   by_cases hlt:k<N
   ·obtain ⟨hk1,ad1,rfl,hab1,hc1⟩:=Zhu hR1 hlt
    have HS:=Lib.hid (Zi5 a k hk1)
    have bax:=Ze BA a[k] (List.getElem_mem hk1)
    have hbd:=ZjN (a.take k) 16 (by omega) (fun x hx=>Ze BA x (List.mem_of_mem_take hx))
    have htl:(a.take k).length≤k:=List.length_take_le _ _
    obtain ⟨hbda,hbdb⟩:=hbd
    obtain ⟨baxa,baxb⟩:=bax
    have hs1:-4096≤ZdU (a.take k):=by omega
    have hs2:ZdU (a.take k)≤4096:=by omega
    clear hbda hbdb
    generalize ex:a[k]=x at *
    go_wp2
    go_roundw
    case rel=>exact ⟨k+1,m,by omega,by go_num,by rw [HS.out],rfl⟩
    case measure=>simp [intOf];omega
   ·have hke:k=N:=by omega
    have ta:a.take k=a:=List.take_of_length_le (by have:=HA.out;omega)
    rw [ta]
    clear ta
    subst hke
    go_wp2
    go_ret
    exact ⟨ZbO HP.out.symm,bel⟩
theorem Zk0 (s:ByteArray) (w:World) (hs:s.size≤16777216) :
  Calls Tryz.prog 231 #[.string s] w fun e w'=>e=.returned (.int .i64 (ZdJ s.data.toList))∧Below w.heap.size w w':=by
 cases h1:Zar s.data.toList
 ·have HP:=Lib.hid (ZgQ h1)
  go_enter Tryz.func231,Tryz.ntmps231
  go_wp2_with (first|(go_at_call 204;refine (Zej _ _ (by unfold maxLen;omega)).mono ?_;rw [h1];rintro e w' ⟨rfl,rfl⟩))
  go_ret
  exact ⟨ZbO HP.out.symm,bel⟩
 ·have HP:=Lib.hid (ZeH h1)
  obtain ⟨la,ba⟩:=ZgK h1
  have hcon:=fun (W:World)=>ZjC s W hs
  have HCON:=Zk hcon
  clear hcon
  generalize ea:ZdX s.data.toList=a at *
  generalize en:a.length=N at *
  have HA:=Lib.hid en
  have BA:=Zk ba
  clear ea en ba
  go_enter Tryz.func231,Tryz.ntmps231
  go_wp2_with (first|(go_at_call 204;refine (Zej _ _ (by unfold maxLen;omega)).mono ?_;rw [h1];rintro e w' ⟨rfl,rfl⟩))
  refine (Ze HCON _).mono ?_
  unfold Zeq
  rw [HA.out]
  rintro e w1 ⟨A1,c1,rfl,ho1,hb1⟩
  have hR1:=Zal.of_own ho1
  have hz1:=hb1.size
  clear ho1
  go_wp2
  go_loopw [3,5] (fun q i wr=>∃ k m:Nat,k≤N∧i=.int .i64 k∧q=.int .i64 (ZdU (a.take k))∧wr=w1.drewN m) (fun _ i _=>N - (intOf i).toNat)
  case atStart=>exact ⟨0,0,Nat.zero_le _,rfl,by simp [ZdU],rfl⟩
  case round =>
   obtain ⟨k,m,hk,rfl,rfl,rfl⟩:=hrel
   by_cases hlt:k<N
   ·obtain ⟨hk1,ad1,rfl,hab1,hc1⟩:=Zhu hR1 hlt
    have HS:=Lib.hid (Zi5 a k hk1)
    have bax:=Ze BA a[k] (List.getElem_mem hk1)
    have hbd:=ZjN (a.take k) 16 (by omega) (fun x hx=>Ze BA x (List.mem_of_mem_take hx))
    have htl:(a.take k).length≤k:=List.length_take_le _ _
    obtain ⟨hbda,hbdb⟩:=hbd
    obtain ⟨baxa,baxb⟩:=bax
    have hs1:-4096≤ZdU (a.take k):=by omega
    have hs2:ZdU (a.take k)≤4096:=by omega
    clear hbda hbdb
    generalize ex:a[k]=x at *
    go_wp2
    go_roundw
    case rel=>exact ⟨k+1,m,by omega,by go_num,by rw [HS.out],rfl⟩
    case measure=>simp [intOf];omega
   ·have hke:k=N:=by omega
    have ta:a.take k=a:=List.take_of_length_le (by have:=HA.out;omega)
    rw [ta]
    clear ta
    subst hke
    go_wp2
    go_ret
    exact ⟨ZbO HP.out.symm,bel⟩
def ZdR:List ByteArray→Int
 |[]=>0
 |a :: l=>ZdJ a.data.toList+ZdR l
theorem Zjk (a:List ByteArray) (k:Nat) (ha:k<a.length):ZdR (a.take (k+1))=ZdR (a.take k)+ZdJ a[k].data.toList:=by
 induction k generalizing a with
 |zero=>match a,ha with|x :: l,_=>simp [ZdR]
 |succ k ih =>
  match a,ha with
  |x :: l,ha=>simp only [List.take_succ_cons,ZdR,List.getElem_cons_succ];rw [ih l (by simpa using ha)];omega
theorem ZjS (a:List ByteArray):-(128 * (a.length:Int))≤ZdR a∧ZdR a≤128 * a.length:=by
 induction a with
 |nil=>simp [ZdR]
 |cons x l ih =>
  have h2:=ZgR x.data.toList
  simp only [ZdR,List.length_cons]
  omega
def ZcP (d f:Int) (ss:List ByteArray):Int:=if Zac d f ss=true then ZdR ss else -1
theorem Zlj (d f:Int) (B:Nat) (A:Option Addr) (n c:Nat) (ss:List ByteArray) (w:World) (hS:ZaJ w B A n ss) (hB:B≤w.heap.size) :
  Calls Tryz.prog 87 #[.agg #[.int .i64 d,.int .i64 f,.slice A n c]] w fun e w'=>e=.returned (.int .i64 (ZcP d f ss))∧Below w.heap.size w w':=by
 have hn:=hS.nb
 have hS2:=hS.alloc hB (.cells #[.int .i64 d,.int .i64 f,.slice A n c] 26)
 have HL:=Lib.hid hS.len
 cases hck:Zac d f ss
 ·have HP:=Lib.hid (show ZcP d f ss = -1 by unfold ZcP;rw [if_neg (by rw [hck];simp)])
  go_enter Tryz.func87,Tryz.ntmps87
  go_wp2_with (first|(go_at_call 70;refine (Zb0 _ _ _ _ _ ss _ (hS2.more (by simp;omega))).mono ?_;rw [hck];rintro e w1 ⟨rfl,hb1⟩;obtain ⟨hcb,hfb⟩:=Zw hb1;obtain ⟨qaa,qba⟩:=zs1 (show w.heap.size<w1.heap.size by have hzz:=hb1.size;(try simp at hzz);omega)))
  go_ret
  exact ⟨ZbO HP.out.symm,bel⟩
 ·have HP:=Lib.hid (show ZcP d f ss=ZdR ss by unfold ZcP;rw [if_pos hck])
  go_enter Tryz.func87,Tryz.ntmps87
  go_wp2_with (first|(go_at_call 70;refine (Zb0 _ _ _ _ _ ss _ (hS2.more (by simp;omega))).mono ?_;rw [hck];rintro e w1 ⟨rfl,hb1⟩;obtain ⟨hcb,hfb⟩:=Zw hb1;obtain ⟨qaa,qba⟩:=zs1 (show w.heap.size<w1.heap.size by have hzz:=hb1.size;(try simp at hzz);omega)))
  have hS3:=hS2.below (hb1.mono (by simp;omega))
  have hk1:=Za (Zy w (.cells #[.int .i64 d,.int .i64 f,.slice A n c] 26)) hb1
  have hbw:Below w.heap.size w w1:=bel
  have hzz:=qaa
  clear hcb hfb
  go_loopw [3,12] (fun q i wr=>∃ k:Nat,k≤n∧i=.int .i64 k∧q=.int .i64 (ZdR (ss.take k))∧Below w1.heap.size w1 wr) (fun _ i _=>n - (intOf i).toNat)
  case atStart=>exact ⟨0,Nat.zero_le _,rfl,by simp [ZdR],Below.refl _ _⟩
  case round =>
   obtain ⟨k,hk,rfl,rfl,hb⟩:=hrel
   have hzr:=hb.size
   obtain ⟨hx0,hx1,hx2,hxl⟩:=Za8 (Zbf hk1 hb (by omega))
   have hSr:=hS3.below (hb.mono (by omega))
   by_cases hlt:k<n
   ·obtain ⟨hks,ad,rfl,hab,hc1,hsz⟩:=hSr.at_ hlt
    have HS:=Lib.hid (Zjk ss k hks)
    have hbd:=ZjS (ss.take k)
    have htl:(ss.take k).length≤k:=List.length_take_le _ _
    have hbd2:=ZgR ss[k].data.toList
    obtain ⟨hbda,hbdb⟩:=hbd
    obtain ⟨hbdc,hbdd⟩:=hbd2
    have hs1:-2147483648≤ZdR (ss.take k):=by omega
    have hs2:ZdR (ss.take k)≤2147483648:=by omega
    clear hbda hbdb
    go_wp2_with (first|(go_at_call 138;refine (ZkL _ _ hsz).mono ?_;rintro e w3 ⟨rfl,hb3⟩))
    go_roundw
    case rel=>exact ⟨k+1,by omega,by go_num,by rw [HS.out],bel⟩
    case measure=>simp [intOf];omega
   ·have hke:k=n:=by omega
    have ta:ss.take k=ss:=List.take_of_length_le (by have:=HL.out;omega)
    rw [ta]
    clear ta
    subst hke
    go_wp2
    go_ret
    exact ⟨ZbO HP.out.symm,hbw.trans (hb.mono (by omega))⟩
theorem ZlF (d f:Int) (B:Nat) (A:Option Addr) (n c:Nat) (ss:List ByteArray) (w:World) (hS:ZaJ w B A n ss) (hB:B≤w.heap.size) :
  Calls Tryz.prog 179 #[.agg #[.int .i64 d,.int .i64 f,.slice A n c]] w fun e w'=>e=.returned (.int .i64 (ZcP d f ss))∧Below w.heap.size w w':=by
 have hn:=hS.nb
 have hS2:=hS.alloc hB (.cells #[.int .i64 d,.int .i64 f,.slice A n c] 26)
 have HL:=Lib.hid hS.len
 cases hck:Zac d f ss
 ·have HP:=Lib.hid (show ZcP d f ss = -1 by unfold ZcP;rw [if_neg (by rw [hck];simp)])
  go_enter Tryz.func179,Tryz.ntmps179
  go_wp2_with (first|(go_at_call 97;refine (Zbp _ _ _ _ _ ss _ (hS2.more (by simp;omega))).mono ?_;rw [hck];rintro e w1 ⟨rfl,hb1⟩;obtain ⟨hcb,hfb⟩:=Zw hb1;obtain ⟨qaa,qba⟩:=zs1 (show w.heap.size<w1.heap.size by have hzz:=hb1.size;(try simp at hzz);omega)))
  go_ret
  exact ⟨ZbO HP.out.symm,bel⟩
 ·have HP:=Lib.hid (show ZcP d f ss=ZdR ss by unfold ZcP;rw [if_pos hck])
  go_enter Tryz.func179,Tryz.ntmps179
  go_wp2_with (first|(go_at_call 97;refine (Zbp _ _ _ _ _ ss _ (hS2.more (by simp;omega))).mono ?_;rw [hck];rintro e w1 ⟨rfl,hb1⟩;obtain ⟨hcb,hfb⟩:=Zw hb1;obtain ⟨qaa,qba⟩:=zs1 (show w.heap.size<w1.heap.size by have hzz:=hb1.size;(try simp at hzz);omega)))
  have hS3:=hS2.below (hb1.mono (by simp;omega))
  have hk1:=Za (Zy w (.cells #[.int .i64 d,.int .i64 f,.slice A n c] 26)) hb1
  have hbw:Below w.heap.size w w1:=bel
  have hzz:=qaa
  clear hcb hfb
  go_loopw [3,4] (fun q i wr=>∃ k:Nat,k≤n∧i=.int .i64 k∧q=.int .i64 (ZdR (ss.take k))∧Below w1.heap.size w1 wr) (fun _ i _=>n - (intOf i).toNat)
  case atStart=>exact ⟨0,Nat.zero_le _,rfl,by simp [ZdR],Below.refl _ _⟩
  case round =>
   obtain ⟨k,hk,rfl,rfl,hb⟩:=hrel
   have hzr:=hb.size
   obtain ⟨hx0,hx1,hx2,hxl⟩:=Za8 (Zbf hk1 hb (by omega))
   have hSr:=hS3.below (hb.mono (by omega))
   by_cases hlt:k<n
   ·obtain ⟨hks,ad,rfl,hab,hc1,hsz⟩:=hSr.at_ hlt
    have HS:=Lib.hid (Zjk ss k hks)
    have hbd:=ZjS (ss.take k)
    have htl:(ss.take k).length≤k:=List.length_take_le _ _
    have hbd2:=ZgR ss[k].data.toList
    obtain ⟨hbda,hbdb⟩:=hbd
    obtain ⟨hbdc,hbdd⟩:=hbd2
    have hs1:-2147483648≤ZdR (ss.take k):=by omega
    have hs2:ZdR (ss.take k)≤2147483648:=by omega
    clear hbda hbdb
    go_wp2_with (first|(go_at_call 231;refine (Zk0 _ _ hsz).mono ?_;rintro e w3 ⟨rfl,hb3⟩))
    go_roundw
    case rel=>exact ⟨k+1,by omega,by go_num,by rw [HS.out],bel⟩
    case measure=>simp [intOf];omega
   ·have hke:k=n:=by omega
    have ta:ss.take k=ss:=List.take_of_length_le (by have:=HL.out;omega)
    rw [ta]
    clear ta
    subst hke
    go_wp2
    go_ret
    exact ⟨ZbO HP.out.symm,hbw.trans (hb.mono (by omega))⟩
def Zqt (D:Zd):Int:=if ZaG D=true then ZcP D.d2 D.f2 D.ss2 - ZcP D.d1 D.f1 D.ss1 else 0
set_option linter.unusedSimpArgs false
def ZcB (W:Zh) (k a b:Int):Zh×Bool :=
 if k=1 then Zai W (Zv.mk 1 a a b 0 ByteArray.empty ByteArray.empty) else if k=2 then Zai W (Zv.mk 2 a a b 0 ByteArray.empty ByteArray.empty) else if k=3 then Zad W else if k=4 then ZaX W a b else if k=5 then ZaC W (ZcN a) else if k=6 then Zat W (ZcN a) a b else Zah W (ZcN a)
theorem Zop (W:Zh) (a b:Int):ZcB W 1 a b=Zai W (Zv.mk 1 a a b 0 ByteArray.empty ByteArray.empty):=rfl
theorem Zoq (W:Zh) (a b:Int):ZcB W 2 a b=Zai W (Zv.mk 2 a a b 0 ByteArray.empty ByteArray.empty):=rfl
theorem Zn3 (W:Zh) (a b:Int):ZcB W 3 a b=Zad W:=rfl
theorem ZnL (W:Zh) (a b:Int):ZcB W 4 a b=ZaX W a b:=rfl
theorem ZnR (W:Zh) (a b:Int):ZcB W 5 a b=ZaC W (ZcN a):=rfl
theorem Zow (W:Zh) (a b:Int):ZcB W 6 a b=Zat W (ZcN a) a b:=rfl
theorem Zoz (W:Zh) (a b:Int):ZcB W 7 a b=Zah W (ZcN a):=rfl
theorem Zi4 {k a b:Int} (h:ZaW k a b=true):k=1∨k=2∨k=3∨k=4∨k=5∨k=6∨k=7∨k=8:=by
 unfold ZaW at h
 simp only [Bool.or_eq_true,beq_iff_eq] at h
 split at h
 ·omega
 ·split at h
  ·omega
  ·split at h
   ·omega
   ·split at h
    ·omega
    ·cases h
theorem ZnX {k a b:Int} (h:ZaW k a b=true):0≤a∧a≤9:=by
 unfold ZaW at h
 split at h
 ·simp only [Bool.and_eq_true,Za5] at h;exact h.1
 ·split at h
  ·simp only [Bool.and_eq_true,Za5] at h;exact h.1
  ·split at h
   ·simp only [Bool.and_eq_true,Za5] at h;exact h.1
   ·split at h
    ·simp only [Bool.and_eq_true,beq_iff_eq] at h;omega
    ·cases h
def Zs (W:Zh) (k a b:Int):Zh×Int :=
 if Zp W=true∧ZaW k a b=true then (if k=8 then (W,ZcP W.D.d2 W.D.f2 W.D.ss2) else ((ZcB W k a b).1,if (ZcB W k a b).2=true then 1 else 0)) else (W,-1)
theorem Zmq {W:Zh} {k a b:Int} (h:Zp W=false):Zs W k a b=(W,-1):=by unfold Zs;rw [h];simp
theorem Zmo {W:Zh} {k a b:Int} (h:ZaW k a b=false):Zs W k a b=(W,-1):=by unfold Zs;rw [h];simp
theorem Zpe {W:Zh} {a b:Int} (h1:Zp W=true) (h2:ZaW 8 a b=true):Zs W 8 a b=(W,ZcP W.D.d2 W.D.f2 W.D.ss2):=by unfold Zs;rw [if_pos ⟨h1,h2⟩,if_pos rfl]
theorem ZoG {W:Zh} {k a b:Int} (h1:Zp W=true) (h2:ZaW k a b=true) (h8:¬k=8) (h:(ZcB W k a b).2=true):Zs W k a b=((ZcB W k a b).1,1):=by unfold Zs;rw [if_pos ⟨h1,h2⟩,if_neg h8,if_pos h]
theorem Zpa {W:Zh} {k a b:Int} (h1:Zp W=true) (h2:ZaW k a b=true) (h8:¬k=8) (h:(ZcB W k a b).2=false):Zs W k a b=((ZcB W k a b).1,0):=by unfold Zs;rw [if_pos ⟨h1,h2⟩,if_neg h8,h];rfl
theorem ZoM (W:Zh) (k a b:Int) (h:ZaI W.D W.P W.pp 1048576):ZaI (ZcB W k a b).1.D (ZcB W k a b).1.P (ZcB W k a b).1.pp 1048576:=by
 have hs:=Zdm a
 unfold ZcB
 split
 ·exact ZgY _ _ h ⟨Nat.zero_le _,Nat.zero_le _⟩
 ·split
  ·exact ZgY _ _ h ⟨Nat.zero_le _,Nat.zero_le _⟩
  ·split
   ·exact ZiC _ h
   ·split
    ·exact Znq _ _ _ h
    ·split
     ·exact Zls _ _ h (by omega)
     ·split
      ·exact Zlw _ _ _ _ h
      ·exact ZjF _ _ h
theorem Ze3 (W:Zh) (k a b:Int) (h:ZaI W.D W.P W.pp 1048576):ZaI (Zs W k a b).1.D (Zs W k a b).1.P (Zs W k a b).1.pp 1048576:=by
 unfold Zs
 split
 ·split
  ·exact h
  ·exact ZoM W k a b h
 ·exact h
theorem Zbz {W:Zh} {x:Int} {q:Zh×Int} {w w':World} {e:Ending} (h:q=(W,x)) (hu:ZfL W.D.d1 W.D.f1 W.D.ss1 W.D.d2 W.D.f2 W.D.ss2 W.D.st W.P W.pp W.m x w e w'):ZfL q.1.D.d1 q.1.D.f1 q.1.D.ss1 q.1.D.d2 q.1.D.f2 q.1.D.ss2 q.1.D.st q.1.P q.1.pp q.1.m q.2 w e w':=by subst h;exact hu
end Go.Proofs.YtlimlolciekimaaGreatDoor
