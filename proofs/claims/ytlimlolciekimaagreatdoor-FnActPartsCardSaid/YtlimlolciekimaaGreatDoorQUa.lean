/- Contracts of the program's and the reference's functions (Str1, Shelf, Str2, Mem, Card1, Law1, Card2, Card3, Mem2, BeqKit). -/
import Derived.Below
import Derived.BigQuiet
import Derived.Deep.AppendLies
import Derived.Deep.Draws
import Derived.Deep.QuietTactic
import Derived.Deep.RegionHeld3
import Derived.Deep.RegionWith
import Derived.Deep.Upon
import Derived.Ground.Names2Prog
import Derived.Laws.OwnMore
import Derived.Lib.Hide
import Derived.Lib.RowBridge
import Derived.Maps.AppendAt
import Derived.OpenShut
import Derived.OwnWalk
import Derived.ProofKit
import Derived.RegionTactic
import Derived.Shelf.LaysC
import Derived.Shelf.LaysM
import Derived.Shelf.Slices.Clone
import Derived.Shelf.Strconv.Atoi
import Derived.Shelf.Strconv.AtoiAll
import Derived.Shelf.Strconv.AtoiErrFast
import Derived.Shelf.Strconv.AtoiFail
import Derived.Shelf.Strconv.AtoiInnerAll
import Derived.Shelf.Strconv.AtoiLong
import Derived.Shelf.Strconv.Clone
import Derived.Shelf.Strconv.ErrVarAll
import Derived.Shelf.Strconv.Itoa0
import Derived.Shelf.Strconv.Itoa1
import Derived.Shelf.Strconv.Itoa2
import Derived.Shelf.Strconv.Itoa3
import Derived.Shelf.Strconv.Lower
import Derived.Shelf.Strconv.ParseInt10
import Derived.Shelf.Strconv.ParseIntEmpty
import Derived.Shelf.Strconv.ParseUint10
import Derived.Shelf.Strconv.ParseUint10Any
import Derived.Shelf.Strconv.ParseUint10Empty
import Derived.Shelf.Strconv.RangeError
import Derived.Shelf.Strconv.SyntaxError
import Derived.Shelf.Strconv.ToError
import Derived.Shelf.Strconv.ToErrorRange
import Derived.Shelf.Strings.Builder1
import Derived.Shelf.Strings.Builder2
import Derived.Shelf.Strings.BuilderF
import Derived.Shelf.Strings.Count
import Derived.Shelf.Strings.Cut
import Derived.Shelf.Strings.Fields
import Derived.Shelf.Strings.OnBuilder
import Derived.Shelf.Strings.RuneCount
import Derived.Shelf.Strings.Search1
import Derived.Shelf.Strings.Search2
import Derived.Shelf.Strings.Search3
import Derived.Shelf.Strings.Shaped
import Derived.Shelf.Strings.Split
import Derived.Shelf.Strings.SplitShaped
import Derived.Shelf.Unicode.DecodeSlow
import Derived.Shelf.Unicode.ExclAny
import Derived.Shelf.Unicode.Is16Any
import Derived.Shelf.Unicode.Is16White
import Derived.Shelf.Unicode.Is32Any
import Derived.Shelf.Unicode.IsSpaceAny
import Derived.Shelf.Unicode.Latin
import Derived.Shelf.Utf8.RuneCount
import Derived.Test.YtlimlolciekimaaGreatDoorProg
import Derived.WalkKit
import Derived.WalkLawsBesides
import Derived.WalkSpells
import Derived.Test.YtlimlolciekimaaGreatDoorRows
namespace Go.Proofs.YtlimlolciekimaaGreatDoor
set_option maxHeartbeats 1600000
open Go.ChangeShapes Go.WideShapes Go.ChangeAt Go.RowKit
def inB (x a b:Int):Bool:=decide (a≤x)&&decide (x≤b)
def cnt (c:UInt8) (l:List UInt8):Nat:=l.count c
theorem cnt_le (c:UInt8) (l:List UInt8):cnt c l≤l.length:=List.count_le_length
theorem cnt_snoc (c:UInt8) (l:List UInt8) (x:UInt8):cnt c (l++[x])=cnt c l+if x=c then 1 else 0:=by
 unfold cnt;rw [List.count_append,List.count_singleton];by_cases h:x=c <;> simp [h]
theorem cnt_two (l:List UInt8):cnt 100 l+cnt 102 l≤l.length:=by
 induction l with
 |nil=>simp [cnt]
 |cons x t ih =>
  unfold cnt at *
  rw [List.count_cons,List.count_cons,List.length_cons]
  by_cases h:x=100
  ·subst h;simp;omega
  ·by_cases h2:x=102
   ·subst h2;simp;omega
   ·simp [h,h2];omega
def isStrip (l:List UInt8):Bool:=(cnt 100 l+cnt 102 l==l.length)&&(inB (cnt 100 l) 1 8&&inB (cnt 102 l) 1 8)
theorem take_snoc (s:ByteArray) (k:Nat) (h:k<s.size):s.data.toList.take (k+1)=s.data.toList.take k++[s[k]]:=by
 rw [List.take_succ_eq_append_getElem (by simpa using h)];rfl
theorem ba_ext {a b:ByteArray} (h:a.data.toList=b.data.toList):a=b:=by
 cases a;cases b;simp at h;rw [h]
theorem ret_int {k:IntKind} {a b:Int} (h:a=b):Ending.returned (.int k a)=.returned (.int k b):=by rw [h]
theorem ret_str {a b:ByteArray} (h:a=b):Ending.returned (.string a)=.returned (.string b):=by rw [h]
theorem ret_bool {a b:Bool} (h:a=b):Ending.returned (.bool a)=.returned (.bool b):=by rw [h]
theorem i_within (x a b:Int) (w:World):Calls Tryz.prog 71 #[.int .i64 x,.int .i64 a,.int .i64 b] w fun e w'=>e=.returned (.bool (inB x a b))∧w=w':=by
 by_cases h:a≤x
 ·go_enter Tryz.func71,Tryz.ntmps71
  go_wp2
  go_ret
  exact ⟨by simp [inB,h],rfl⟩
 ·go_enter Tryz.func71,Tryz.ntmps71
  go_wp2
  go_ret
  exact ⟨ret_bool (by unfold inB;rw [decide_eq_false (by omega)];rfl),rfl⟩
theorem s_l01In (x a b:Int) (w:World):Calls Tryz.prog 95 #[.int .i64 x,.int .i64 a,.int .i64 b] w fun e w'=>e=.returned (.bool (inB x a b))∧w=w':=by
 by_cases h:a≤x
 ·go_enter Tryz.func95,Tryz.ntmps95
  go_wp2
  go_ret
  exact ⟨by simp [inB,h],rfl⟩
 ·go_enter Tryz.func95,Tryz.ntmps95
  go_wp2
  go_ret
  exact ⟨ret_bool (by unfold inB;rw [decide_eq_false (by omega)];rfl),rfl⟩
theorem s_l02Count (s:ByteArray) (c:UInt8) (w:World) (hs:s.size≤maxLen) :
  Calls Tryz.prog 205 #[.string s,.int .u8 c.toNat] w fun e w'=>e=.returned (.int .i64 (cnt c s.data.toList))∧w=w':=by
 unfold maxLen at hs
 go_enter Tryz.func205,Tryz.ntmps205
 go_wp2
 go_loop [5,6] (fun n i=>∃ k:Nat,k≤s.size∧i=.int .i64 k∧n=.int .i64 (cnt c (s.data.toList.take k))) (fun _ i=>s.size - (intOf i).toNat)
 case atStart=>exact ⟨0,Nat.zero_le _,rfl,rfl⟩
 case round =>
  obtain ⟨k,hk,rfl,rfl⟩:=hrel
  have hd:=cnt_le c (s.data.toList.take k)
  have hl:(s.data.toList.take k).length≤k:=List.length_take_le _ _
  by_cases hlt:k<s.size
  ·have hts:=take_snoc s k hlt
   have hsn:=cnt_snoc c (s.data.toList.take k) s[k]
   rw [← hts] at hsn
   have HS:=Lib.hid hsn
   clear hsn hts
   by_cases hc:s[k]=c
   ·have hb:((s[k].toNat:Int)==(c.toNat:Int))=true:=by rw [hc];simp
    have HC:=Lib.hid hc
    clear hc
    go_wp2
    go_round
    case rel=>exact ⟨k+1,by omega,by go_num,by rw [HS.out,if_pos HC.out];go_num⟩
    case measure=>simp [intOf];omega
   ·have hb:((s[k].toNat:Int)==(c.toNat:Int))=false:=by
     rw [beq_eq_false_iff_ne];intro h;exact hc (UInt8.toNat_inj.1 (by omega))
    have HC:=Lib.hid hc
    clear hc
    go_wp2
    go_round
    case rel=>exact ⟨k+1,by omega,by go_num,by rw [HS.out,if_neg HC.out];go_num⟩
    case measure=>simp [intOf];omega
  ·go_wp2
   go_ret
   exact ⟨ret_int (by rw [List.take_of_length_le (by simp;omega)]),rfl⟩
theorem s_IsStrip (s:ByteArray) (w:World) (hs:s.size≤maxLen) :
  Calls Tryz.prog 204 #[.string s] w fun e w'=>e=.returned (.bool (isStrip s.data.toList))∧w=w':=by
 unfold maxLen at hs
 go_enter Tryz.func204,Tryz.ntmps204
 go_wp2
 go_loop [3,4,5] (fun d f i=>∃ k:Nat,k≤s.size∧i=.int .i64 k∧d=.int .i64 (cnt 100 (s.data.toList.take k))∧f=.int .i64 (cnt 102 (s.data.toList.take k))∧k≤cnt 100 (s.data.toList.take k)+cnt 102 (s.data.toList.take k)) (fun _ _ i=>s.size - (intOf i).toNat)
 case atStart=>exact ⟨0,Nat.zero_le _,rfl,rfl,rfl,by simp⟩
 case round =>
  obtain ⟨k,hk,rfl,rfl,rfl,hsum⟩:=hrel
  have hd:=cnt_le 100 (s.data.toList.take k)
  have hd2:=cnt_le 102 (s.data.toList.take k)
  have hl:(s.data.toList.take k).length≤k:=List.length_take_le _ _
  by_cases hlt:k<s.size
  ·have hts:=take_snoc s k hlt
   have hsn:=cnt_snoc 100 (s.data.toList.take k) s[k]
   have hsn2:=cnt_snoc 102 (s.data.toList.take k) s[k]
   rw [← hts] at hsn hsn2
   have HS:=Lib.hid hsn
   have HS2:=Lib.hid hsn2
   have hts':=Lib.hid hts
   clear hsn hsn2 hts
   by_cases hc:s[k]=100
   ·have hb:((s[k].toNat:Int)==100)=true:=by rw [hc];rfl
    have HC:=Lib.hid hc
    clear hc
    go_wp2
    go_round
    case rel =>
     have e1:=HS.out;have e2:=HS2.out
     rw [HC.out] at e1 e2
     simp at e1 e2
     exact ⟨k+1,by omega,by go_num,by rw [e1];go_num,by rw [e2],by omega⟩
    case measure=>simp [intOf];omega
   ·have hb:((s[k].toNat:Int)==100)=false:=by
     rw [beq_eq_false_iff_ne];intro h;exact hc (UInt8.toNat_inj.1 (by show s[k].toNat=100;omega))
    by_cases hc2:s[k]=102
    ·have hb2:((s[k].toNat:Int)==102)=true:=by rw [hc2];rfl
     have HC:=Lib.hid hc2
     clear hc hc2
     go_wp2
     go_round
     case rel =>
      have e1:=HS.out;have e2:=HS2.out
      rw [HC.out] at e1 e2
      simp at e1 e2
      exact ⟨k+1,by omega,by go_num,by rw [e1],by rw [e2];go_num,by omega⟩
     case measure=>simp [intOf];omega
    ·have hb2:((s[k].toNat:Int)==102)=false:=by
      rw [beq_eq_false_iff_ne];intro h;exact hc2 (UInt8.toNat_inj.1 (by show s[k].toNat=102;omega))
     have hfin:isStrip s.data.toList=false:=by
      have h1:=cnt_two (s.data.toList.drop (k+1))
      have e1:=HS.out;have e2:=HS2.out
      rw [if_neg hc] at e1;rw [if_neg hc2] at e2
      have a1:cnt 100 s.data.toList=cnt 100 (s.data.toList.take (k+1))+cnt 100 (s.data.toList.drop (k+1)):=by
       unfold cnt;rw [← List.count_append,List.take_append_drop]
      have a2:cnt 102 s.data.toList=cnt 102 (s.data.toList.take (k+1))+cnt 102 (s.data.toList.drop (k+1)):=by
       unfold cnt;rw [← List.count_append,List.take_append_drop]
      have h3:=cnt_two (s.data.toList.take k)
      have hlen:s.data.toList.length=s.size:=by simp
      unfold isStrip
      rw [List.length_drop] at h1
      have:(cnt 100 s.data.toList+cnt 102 s.data.toList==s.data.toList.length)=false:=by
       rw [beq_eq_false_iff_ne];omega
      rw [this];rfl
     have HF:=Lib.hid hfin
     clear hc hc2 hfin
     go_wp2
     go_ret
     exact ⟨ret_bool HF.out.symm,rfl⟩
  ·have hk':k=s.size:=by omega
   subst hk'
   have ht:s.data.toList.take s.size=s.data.toList:=List.take_of_length_le (by simp)
   rw [ht] at hsum hd hd2 ⊢
   have h3:=cnt_two s.data.toList
   have hlen:s.data.toList.length=s.size:=by simp
   have HE:Hid ((cnt 100 s.data.toList+cnt 102 s.data.toList==s.data.toList.length)=true):=by
    show _=true
    rw [beq_iff_eq];omega
   clear hlen ht hsum h3
   cases hA:inB (cnt 100 s.data.toList) 1 8 <;> cases hB:inB (cnt 102 s.data.toList) 1 8 <;>
   ·go_wp2_with (go_at_call 95;refine (s_l01In _ _ _ _).mono ?_;rintro e w' ⟨rfl,rfl⟩)
    go_ret
    exact ⟨ret_bool (by unfold isStrip;rw [HE.out,hA,hB];rfl),rfl⟩
end Go.Proofs.YtlimlolciekimaaGreatDoor
namespace Go.Proofs
open Go.Shelf
def Tryz.lays169_ren:Go.Shelf.Ren:=⟨fun|169=>112|n=>n,fun|70=>147|9=>9|0=>0|72=>149|37=>22|127=>185|3=>3|5=>5|n=>n,fun|n=>n⟩
def Tryz.lays241_ren:Go.Shelf.Ren:=⟨fun|241=>161|277=>215|n=>n,fun|70=>147|3=>3|0=>0|72=>149|37=>22|5=>5|n=>n,fun|n=>n⟩
def Tryz.lays165_ren:Go.Shelf.Ren:=⟨fun|165=>110|240=>160|241=>161|276=>214|277=>215|n=>n,fun|70=>147|3=>3|0=>0|4=>4|9=>9|20=>20|72=>149|37=>22|164=>227|5=>5|n=>n,fun|n=>n⟩
def Tryz.lays156_ren:Go.Shelf.Ren:=⟨fun|156=>65|165=>110|166=>111|169=>112|240=>160|241=>161|276=>214|277=>215|n=>n,fun|31=>24|9=>9|3=>3|4=>4|0=>0|20=>20|72=>149|76=>145|70=>147|37=>22|75=>144|127=>185|164=>227|5=>5|80=>151|n=>n,fun|n=>n⟩
theorem Tryz.lays156:Go.Proofs.Lays.n156 Tryz.prog Tryz.lays156_ren:={
 mixed:=by kernel_rfl
 f156:=Tryz.func65.trans (congrArg some (by kernel_rfl))
 f165:=Tryz.func110.trans (congrArg some (by kernel_rfl))
 f166:=Tryz.func111.trans (congrArg some (by kernel_rfl))
 f169:=Tryz.func112.trans (congrArg some (by kernel_rfl))
 f240:=Tryz.func160.trans (congrArg some (by kernel_rfl))
 f241:=Tryz.func161.trans (congrArg some (by kernel_rfl))
 f276:=Tryz.func214.trans (congrArg some (by kernel_rfl))
 f277:=Tryz.func215.trans (congrArg some (by kernel_rfl))
 t0:=Tryz.underlying0
 a0:=Tryz.isAgg0
 z0:=Tryz.sizeOf0
 v0:=Tryz.zeroValue0
 t3:=Tryz.underlying3
 a3:=Tryz.isAgg3
 z3:=Tryz.sizeOf3
 v3:=Tryz.zeroValue3
 t4:=Tryz.underlying4
 a4:=Tryz.isAgg4
 z4:=Tryz.sizeOf4
 v4:=Tryz.zeroValue4
 t9:=Tryz.underlying9
 a9:=Tryz.isAgg9
 z9:=Tryz.sizeOf9
 v9:=Tryz.zeroValue9
 t20:=Tryz.underlying20
 a20:=Tryz.isAgg20
 z20:=Tryz.sizeOf20
 v20:=Tryz.zeroValue20
 t31:=Tryz.underlying24
 a31:=Tryz.isAgg24
 z31:=Tryz.sizeOf24
 v31:=Tryz.zeroValue24
 t37:=Tryz.underlying22
 a37:=Tryz.isAgg22
 z37:=Tryz.sizeOf22
 v37:=Tryz.zeroValue22
 t70:=Tryz.underlying147
 a70:=Tryz.isAgg147
 z70:=Tryz.sizeOf147
 v70:=Tryz.zeroValue147
 t72:=Tryz.underlying149
 a72:=Tryz.isAgg149
 z72:=Tryz.sizeOf149
 v72:=Tryz.zeroValue149
 t75:=Tryz.underlying144
 a75:=Tryz.isAgg144
 z75:=Tryz.sizeOf144
 v75:=Tryz.zeroValue144
 t76:=Tryz.underlying145
 a76:=Tryz.isAgg145
 z76:=Tryz.sizeOf145
 v76:=Tryz.zeroValue145
 t127:=Tryz.underlying185
 a127:=Tryz.isAgg185
 z127:=Tryz.sizeOf185
 v127:=Tryz.zeroValue185
 t164:=Tryz.underlying227
 a164:=Tryz.isAgg227
 z164:=Tryz.sizeOf227
 v164:=Tryz.zeroValue227 }
theorem Tryz.Builder_Extra_156:Builder.Extra Tryz.prog Tryz.lays156_ren:={
 sizeBuilder:=by kernel_rfl
 liesBuilder:=by kernel_rfl
 t5:=Tryz.underlying5
 a5:=Tryz.isAgg5
 z5:=Tryz.sizeOf5
 v5:=Tryz.zeroValue5
 infoByte:=by kernel_rfl
 cellsByte:=by kernel_rfl
 sizeByte:=by kernel_rfl
 neB5:=by decide }
open Go.RowKit in
theorem Tryz.strings_Join (bk o c:Nat) (xs:List ByteArray) (sep:ByteArray) (w:World) (hcells:∀ (j:Nat) x,xs[j]?=some x→w.cell? ⟨bk,o+j,none⟩=some (.string x)) (hbk:bk<w.heap.size) (hN:xs.length≤140737488355328) (hcap:xs.length≤c) (hlen:(Lib.join (xs.map (·.data.toList)) sep.data.toList).length≤140737488355328) :
  Calls Tryz.prog 65 #[.slice (some ⟨bk,o,none⟩) xs.length c,.string sep] w fun e w'=>e=.returned (.string ⟨(Lib.join (xs.map (·.data.toList)) sep.data.toList).toArray⟩)∧Below w.heap.size w w':=Any.strings_Join Tryz.lays156 Tryz.Builder_Extra_156 bk o c xs sep w hcells hbk hN hcap hlen
def Tryz.lays195_ren:Go.Shelf.Ren:=⟨fun|195=>224|n=>n,fun|9=>9|3=>3|0=>0|4=>4|n=>n,fun|n=>n⟩
def Tryz.lays244_ren:Go.Shelf.Ren:=⟨fun|244=>158|247=>209|287=>251|321=>278|322=>279|n=>n,fun|9=>9|3=>3|75=>144|4=>4|5=>5|167=>221|37=>22|0=>0|85=>222|2=>2|53=>231|175=>262|46=>163|21=>21|80=>151|n=>n,fun|n=>n⟩
def Tryz.lays172_ren:Go.Shelf.Ren:=⟨fun|172=>109|244=>158|245=>159|247=>209|279=>210|280=>211|281=>212|282=>213|287=>251|316=>252|171=>66|205=>253|321=>278|322=>279|243=>113|246=>162|283=>216|284=>217|285=>218|286=>219|129=>255|317=>254|318=>256|319=>257|320=>258|337=>280|338=>281|n=>n,fun|9=>9|3=>3|75=>144|76=>145|4=>4|5=>5|167=>221|37=>22|0=>0|85=>222|2=>2|168=>224|53=>231|175=>262|46=>163|210=>266|127=>185|145=>286|143=>284|21=>21|171=>230|173=>234|212=>268|51=>218|20=>20|213=>269|232=>291|233=>292|80=>151|n=>n,fun|15=>3|16=>4|17=>5|18=>8|19=>9|n=>n⟩
def Tryz.lays129_ren:Go.Shelf.Ren:=⟨fun|129=>255|n=>n,fun|53=>231|3=>3|4=>4|46=>163|5=>5|9=>9|n=>n,fun|n=>n⟩
def Tryz.lays317_ren:Go.Shelf.Ren:=⟨fun|317=>254|n=>n,fun|3=>3|46=>163|n=>n,fun|n=>n⟩
def Tryz.lays318_ren:Go.Shelf.Ren:=⟨fun|318=>256|n=>n,fun|3=>3|4=>4|n=>n,fun|n=>n⟩
def Tryz.lays283_ren:Go.Shelf.Ren:=⟨fun|283=>216|n=>n,fun|3=>3|9=>9|4=>4|n=>n,fun|n=>n⟩
def Tryz.laysM284_ren:Go.Shelf.Ren:=⟨fun|284=>217|129=>255|317=>254|318=>256|n=>n,fun|53=>231|3=>3|212=>268|0=>0|4=>4|46=>163|5=>5|9=>9|n=>n,fun|17=>5|n=>n⟩
def Tryz.lays285_ren:Go.Shelf.Ren:=⟨fun|285=>218|n=>n,fun|37=>22|53=>231|3=>3|4=>4|51=>218|9=>9|5=>5|0=>0|n=>n,fun|n=>n⟩
def Tryz.laysM246_ren:Go.Shelf.Ren:=⟨fun|246=>162|283=>216|284=>217|285=>218|286=>219|129=>255|317=>254|318=>256|319=>257|320=>258|337=>280|338=>281|n=>n,fun|2=>2|3=>3|9=>9|4=>4|171=>230|0=>0|53=>231|37=>22|5=>5|173=>234|212=>268|51=>218|20=>20|213=>269|46=>163|232=>291|233=>292|n=>n,fun|17=>5|18=>8|19=>9|n=>n⟩
def Tryz.lays246_ren:Go.Shelf.Ren:=⟨fun|246=>162|283=>216|284=>217|285=>218|286=>219|129=>255|317=>254|318=>256|319=>257|320=>258|337=>280|338=>281|n=>n,fun|2=>2|3=>3|9=>9|4=>4|171=>230|0=>0|53=>231|37=>22|5=>5|173=>234|212=>268|51=>218|20=>20|213=>269|46=>163|232=>291|233=>292|n=>n,fun|17=>5|18=>8|19=>9|n=>n⟩
def Tryz.laysM243_ren:Go.Shelf.Ren:=⟨fun|243=>113|246=>162|283=>216|284=>217|285=>218|286=>219|129=>255|317=>254|318=>256|319=>257|320=>258|337=>280|338=>281|n=>n,fun|3=>3|9=>9|2=>2|4=>4|171=>230|0=>0|53=>231|37=>22|5=>5|173=>234|212=>268|51=>218|20=>20|213=>269|46=>163|232=>291|233=>292|n=>n,fun|17=>5|18=>8|19=>9|n=>n⟩
def Tryz.lays243_ren:Go.Shelf.Ren:=⟨fun|243=>113|246=>162|283=>216|284=>217|285=>218|286=>219|129=>255|317=>254|318=>256|319=>257|320=>258|337=>280|338=>281|n=>n,fun|3=>3|9=>9|2=>2|4=>4|171=>230|0=>0|53=>231|37=>22|5=>5|173=>234|212=>268|51=>218|20=>20|213=>269|46=>163|232=>291|233=>292|n=>n,fun|17=>5|18=>8|19=>9|n=>n⟩
def Tryz.laysM171_ren:Go.Shelf.Ren:=⟨fun|171=>66|243=>113|246=>162|283=>216|284=>217|285=>218|286=>219|129=>255|317=>254|318=>256|319=>257|320=>258|337=>280|338=>281|n=>n,fun|3=>3|9=>9|2=>2|4=>4|171=>230|0=>0|53=>231|37=>22|5=>5|173=>234|212=>268|51=>218|20=>20|213=>269|46=>163|232=>291|233=>292|n=>n,fun|17=>5|18=>8|19=>9|n=>n⟩
theorem Tryz.laysM171:Go.Proofs.LaysM.n171 Tryz.prog Tryz.laysM171_ren:={
 mixed:=by kernel_rfl
 f129:=Tryz.func255.trans (congrArg some (by kernel_rfl))
 f171:=Tryz.func66.trans (congrArg some (by kernel_rfl))
 f243:=Tryz.func113.trans (congrArg some (by kernel_rfl))
 f246:=Tryz.func162.trans (congrArg some (by kernel_rfl))
 f283:=Tryz.func216.trans (congrArg some (by kernel_rfl))
 f284:=Tryz.func217.trans (congrArg some (by kernel_rfl))
 f285:=Tryz.func218.trans (congrArg some (by kernel_rfl))
 f286:=Tryz.func219.trans (congrArg some (by kernel_rfl))
 f317:=Tryz.func254.trans (congrArg some (by kernel_rfl))
 f318:=Tryz.func256.trans (congrArg some (by kernel_rfl))
 f319:=Tryz.func257.trans (congrArg some (by kernel_rfl))
 f320:=Tryz.func258.trans (congrArg some (by kernel_rfl))
 f337:=Tryz.func280.trans (congrArg some (by kernel_rfl))
 f338:=Tryz.func281.trans (congrArg some (by kernel_rfl))
 t0:=Tryz.underlying0
 a0:=Tryz.isAgg0
 z0:=Tryz.sizeOf0
 v0:=Tryz.zeroValue0
 t2:=Tryz.underlying2
 a2:=Tryz.isAgg2
 z2:=Tryz.sizeOf2
 v2:=Tryz.zeroValue2
 t3:=Tryz.underlying3
 a3:=Tryz.isAgg3
 z3:=Tryz.sizeOf3
 v3:=Tryz.zeroValue3
 t4:=Tryz.underlying4
 a4:=Tryz.isAgg4
 z4:=Tryz.sizeOf4
 v4:=Tryz.zeroValue4
 t5:=Tryz.underlying5
 a5:=Tryz.isAgg5
 z5:=Tryz.sizeOf5
 v5:=Tryz.zeroValue5
 t9:=Tryz.underlying9
 a9:=Tryz.isAgg9
 z9:=Tryz.sizeOf9
 v9:=Tryz.zeroValue9
 t20:=Tryz.underlying20
 a20:=Tryz.isAgg20
 z20:=Tryz.sizeOf20
 v20:=Tryz.zeroValue20
 t37:=Tryz.underlying22
 a37:=Tryz.isAgg22
 z37:=Tryz.sizeOf22
 v37:=Tryz.zeroValue22
 t46:=Tryz.underlying163
 a46:=Tryz.isAgg163
 z46:=Tryz.sizeOf163
 v46:=Tryz.zeroValue163
 t51:=Tryz.underlying218
 a51:=Tryz.isAgg218
 z51:=Tryz.sizeOf218
 v51:=Tryz.zeroValue218
 t53:=Tryz.underlying231
 a53:=Tryz.isAgg231
 z53:=Tryz.sizeOf231
 v53:=Tryz.zeroValue231
 t171:=Tryz.underlying230
 a171:=Tryz.isAgg230
 z171:=Tryz.sizeOf230
 v171:=Tryz.zeroValue230
 t173:=Tryz.underlying234
 a173:=Tryz.isAgg234
 z173:=Tryz.sizeOf234
 v173:=Tryz.zeroValue234
 t212:=Tryz.underlying268
 a212:=Tryz.isAgg268
 z212:=Tryz.sizeOf268
 v212:=Tryz.zeroValue268
 t213:=Tryz.underlying269
 a213:=Tryz.isAgg269
 z213:=Tryz.sizeOf269
 t232:=Tryz.underlying291
 a232:=Tryz.isAgg291
 z232:=Tryz.sizeOf291
 v232:=Tryz.zeroValue291
 t233:=Tryz.underlying292
 a233:=Tryz.isAgg292
 z233:=Tryz.sizeOf292
 v233:=Tryz.zeroValue292
 g17:=by kernel_rfl
 g18:=by kernel_rfl
 g19:=by kernel_rfl
 i0:=by kernel_rfl
 i2:=by kernel_rfl
 i3:=by kernel_rfl
 i4:=by kernel_rfl
 i5:=by kernel_rfl
 i9:=by kernel_rfl
 i20:=by kernel_rfl
 i37:=by kernel_rfl
 i46:=by kernel_rfl
 i51:=by kernel_rfl
 i53:=by kernel_rfl
 i171:=by kernel_rfl
 i173:=by kernel_rfl
 i212:=by kernel_rfl
 i232:=by kernel_rfl
 i233:=by kernel_rfl
 m17:=by kernel_rfl
 m18:=by kernel_rfl
 m19:=by kernel_rfl }
open Go.RowKit Go.Sort Go.Lib in
theorem Tryz.strconv_Itoa (n : Int) (h0 : -9223372036854775808 ≤ n) (h1 : n ≤ 9223372036854775807) (w : World) (htab : Lib.TabIs Tryz.prog w "internal/strconv.uint64pow10" .u64 Lib.pow10Tab) :
  Calls Tryz.prog 66 #[.int .i64 n] w fun e w'=>e=.returned (.string ⟨(Lib.itoa n).toArray⟩)∧∃ k os,w'=grow (w.drewN k) os:=Any.strconv_Itoa Tryz.laysM171 n h0 h1 w htab
def Tryz.lays171_ren:Go.Shelf.Ren:=⟨fun|171=>66|243=>113|246=>162|283=>216|284=>217|285=>218|286=>219|129=>255|317=>254|318=>256|319=>257|320=>258|337=>280|338=>281|n=>n,fun|3=>3|9=>9|2=>2|4=>4|171=>230|0=>0|53=>231|37=>22|5=>5|173=>234|212=>268|51=>218|20=>20|213=>269|46=>163|232=>291|233=>292|n=>n,fun|17=>5|18=>8|19=>9|n=>n⟩
def Tryz.lays247_ren:Go.Shelf.Ren:=⟨fun|247=>209|287=>251|321=>278|322=>279|n=>n,fun|9=>9|3=>3|2=>2|75=>144|4=>4|167=>221|5=>5|53=>231|175=>262|46=>163|37=>22|0=>0|21=>21|80=>151|n=>n,fun|n=>n⟩
def Tryz.laysM316_ren:Go.Shelf.Ren:=⟨fun|316=>252|n=>n,fun|9=>9|3=>3|4=>4|37=>22|0=>0|127=>185|5=>5|n=>n,fun|n=>n⟩
def Tryz.laysM279_ren:Go.Shelf.Ren:=⟨fun|279=>210|316=>252|n=>n,fun|9=>9|168=>224|75=>144|210=>266|3=>3|4=>4|37=>22|0=>0|127=>185|80=>151|5=>5|n=>n,fun|15=>3|n=>n⟩
def Tryz.laysC245_ren:Go.Shelf.Ren:=⟨fun|245=>159|279=>210|280=>211|281=>212|282=>213|316=>252|171=>66|205=>253|243=>113|246=>162|283=>216|284=>217|285=>218|286=>219|129=>255|317=>254|318=>256|319=>257|320=>258|337=>280|338=>281|n=>n,fun|9=>9|3=>3|75=>144|167=>221|4=>4|168=>224|210=>266|37=>22|0=>0|127=>185|145=>286|143=>284|2=>2|171=>230|53=>231|5=>5|173=>234|212=>268|51=>218|20=>20|213=>269|46=>163|232=>291|233=>292|80=>151|n=>n,fun|15=>3|16=>4|17=>5|18=>8|19=>9|n=>n⟩
def Tryz.lays321_ren:Go.Shelf.Ren:=⟨fun|321=>278|n=>n,fun|5=>5|n=>n,fun|n=>n⟩
def Tryz.lays287_ren:Go.Shelf.Ren:=⟨fun|287=>251|321=>278|322=>279|n=>n,fun|9=>9|3=>3|53=>231|75=>144|4=>4|167=>221|5=>5|46=>163|37=>22|0=>0|21=>21|80=>151|n=>n,fun|n=>n⟩
def Tryz.laysC247_ren:Go.Shelf.Ren:=⟨fun|247=>209|287=>251|321=>278|322=>279|n=>n,fun|9=>9|3=>3|2=>2|75=>144|4=>4|167=>221|5=>5|53=>231|175=>262|46=>163|37=>22|0=>0|21=>21|80=>151|n=>n,fun|n=>n⟩
def Tryz.laysC244_ren:Go.Shelf.Ren:=⟨fun|244=>158|247=>209|287=>251|321=>278|322=>279|n=>n,fun|9=>9|3=>3|75=>144|4=>4|5=>5|167=>221|37=>22|0=>0|85=>222|2=>2|53=>231|175=>262|46=>163|21=>21|80=>151|n=>n,fun|n=>n⟩
def Tryz.laysM280_ren:Go.Shelf.Ren:=⟨fun|280=>211|316=>252|n=>n,fun|9=>9|168=>224|75=>144|210=>266|3=>3|4=>4|37=>22|0=>0|127=>185|80=>151|5=>5|n=>n,fun|16=>4|n=>n⟩
def Tryz.laysC172_ren:Go.Shelf.Ren:=⟨fun|172=>109|244=>158|245=>159|247=>209|279=>210|280=>211|281=>212|282=>213|287=>251|316=>252|171=>66|205=>253|321=>278|322=>279|243=>113|246=>162|283=>216|284=>217|285=>218|286=>219|129=>255|317=>254|318=>256|319=>257|320=>258|337=>280|338=>281|n=>n,fun|9=>9|3=>3|75=>144|76=>145|4=>4|5=>5|167=>221|37=>22|0=>0|85=>222|2=>2|168=>224|53=>231|175=>262|46=>163|210=>266|127=>185|145=>286|143=>284|21=>21|171=>230|173=>234|212=>268|51=>218|20=>20|213=>269|232=>291|233=>292|80=>151|n=>n,fun|15=>3|16=>4|17=>5|18=>8|19=>9|n=>n⟩
def Tryz.lays217_ren:Go.Shelf.Ren:=⟨fun|217=>220|266=>259|n=>n,fun|9=>9|5=>5|3=>3|n=>n,fun|n=>n⟩
def Tryz.lays224_ren:Go.Shelf.Ren:=⟨fun|224=>222|n=>n,fun|3=>3|n=>n,fun|n=>n⟩
def Tryz.lays314_ren:Go.Shelf.Ren:=⟨fun|314=>260|n=>n,fun|9=>9|51=>218|3=>3|4=>4|5=>5|46=>163|n=>n,fun|n=>n⟩
def Tryz.lays267_ren:Go.Shelf.Ren:=⟨fun|267=>223|314=>260|n=>n,fun|9=>9|3=>3|146=>271|51=>218|4=>4|5=>5|46=>163|n=>n,fun|n=>n⟩
def Tryz.lays219_ren:Go.Shelf.Ren:=⟨fun|219=>164|217=>220|225=>221|224=>222|267=>223|266=>259|314=>260|n=>n,fun|9=>9|3=>3|4=>4|5=>5|46=>163|146=>271|51=>218|n=>n,fun|1=>2|n=>n⟩
def Tryz.lays143_ren:Go.Shelf.Ren:=⟨fun|143=>167|219=>164|217=>220|225=>221|224=>222|267=>223|266=>259|314=>260|n=>n,fun|9=>9|3=>3|4=>4|5=>5|46=>163|146=>271|51=>218|n=>n,fun|1=>2|n=>n⟩
def Tryz.lays220_ren:Go.Shelf.Ren:=⟨fun|220=>117|219=>164|217=>220|225=>221|224=>222|267=>223|266=>259|314=>260|n=>n,fun|9=>9|4=>4|3=>3|5=>5|46=>163|146=>271|51=>218|n=>n,fun|1=>2|n=>n⟩
def Tryz.lays145_ren:Go.Shelf.Ren:=⟨fun|145=>68|220=>117|219=>164|217=>220|225=>221|224=>222|267=>223|266=>259|314=>260|n=>n,fun|9=>9|4=>4|59=>106|3=>3|5=>5|46=>163|146=>271|51=>218|n=>n,fun|1=>2|n=>n⟩
def Tryz.lays138_ren:Go.Shelf.Ren:=⟨fun|138=>166|195=>224|218=>226|143=>167|219=>164|217=>220|225=>221|224=>222|267=>223|266=>259|314=>260|n=>n,fun|9=>9|3=>3|4=>4|5=>5|0=>0|46=>163|146=>271|51=>218|n=>n,fun|1=>2|n=>n⟩
theorem Tryz.lays138:Go.Proofs.Lays.n138 Tryz.prog Tryz.lays138_ren:={
 mixed:=by kernel_rfl
 f138:=Tryz.func166.trans (congrArg some (by kernel_rfl))
 f143:=Tryz.func167.trans (congrArg some (by kernel_rfl))
 f195:=Tryz.func224.trans (congrArg some (by kernel_rfl))
 f217:=Tryz.func220.trans (congrArg some (by kernel_rfl))
 f218:=Tryz.func226.trans (congrArg some (by kernel_rfl))
 f219:=Tryz.func164.trans (congrArg some (by kernel_rfl))
 f224:=Tryz.func222.trans (congrArg some (by kernel_rfl))
 f225:=Tryz.func221.trans (congrArg some (by kernel_rfl))
 f266:=Tryz.func259.trans (congrArg some (by kernel_rfl))
 f267:=Tryz.func223.trans (congrArg some (by kernel_rfl))
 f314:=Tryz.func260.trans (congrArg some (by kernel_rfl))
 t0:=Tryz.underlying0
 a0:=Tryz.isAgg0
 z0:=Tryz.sizeOf0
 v0:=Tryz.zeroValue0
 t3:=Tryz.underlying3
 a3:=Tryz.isAgg3
 z3:=Tryz.sizeOf3
 v3:=Tryz.zeroValue3
 t4:=Tryz.underlying4
 a4:=Tryz.isAgg4
 z4:=Tryz.sizeOf4
 v4:=Tryz.zeroValue4
 t5:=Tryz.underlying5
 a5:=Tryz.isAgg5
 z5:=Tryz.sizeOf5
 v5:=Tryz.zeroValue5
 t9:=Tryz.underlying9
 a9:=Tryz.isAgg9
 z9:=Tryz.sizeOf9
 v9:=Tryz.zeroValue9
 t46:=Tryz.underlying163
 a46:=Tryz.isAgg163
 z46:=Tryz.sizeOf163
 v46:=Tryz.zeroValue163
 t51:=Tryz.underlying218
 a51:=Tryz.isAgg218
 z51:=Tryz.sizeOf218
 v51:=Tryz.zeroValue218
 t146:=Tryz.underlying271
 a146:=Tryz.isAgg271
 z146:=Tryz.sizeOf271
 v146:=Tryz.zeroValue271
 g1:=by kernel_rfl }
open Go.RowKit Go.Lib in
theorem Tryz.strings_Count_one (s:ByteArray) (c:UInt8) (w:World) :
  Calls Tryz.prog 166 #[.string s,.string ⟨#[c]⟩] w fun e w'=>e=.returned (.int .i64 (Lib.countByte s.data.toList c))∧w'=w:=Any.strings_Count_one Tryz.lays138 s c w
def Tryz.laysM219_ren:Go.Shelf.Ren:=⟨fun|219=>164|217=>220|225=>221|224=>222|267=>223|266=>259|314=>260|n=>n,fun|9=>9|3=>3|4=>4|5=>5|46=>163|146=>271|51=>218|n=>n,fun|1=>2|n=>n⟩
def Tryz.laysM143_ren:Go.Shelf.Ren:=⟨fun|143=>167|219=>164|217=>220|225=>221|224=>222|267=>223|266=>259|314=>260|n=>n,fun|9=>9|3=>3|4=>4|5=>5|46=>163|146=>271|51=>218|n=>n,fun|1=>2|n=>n⟩
def Tryz.laysM220_ren:Go.Shelf.Ren:=⟨fun|220=>117|219=>164|217=>220|225=>221|224=>222|267=>223|266=>259|314=>260|n=>n,fun|9=>9|4=>4|3=>3|5=>5|46=>163|146=>271|51=>218|n=>n,fun|1=>2|n=>n⟩
def Tryz.laysM145_ren:Go.Shelf.Ren:=⟨fun|145=>68|220=>117|219=>164|217=>220|225=>221|224=>222|267=>223|266=>259|314=>260|n=>n,fun|9=>9|4=>4|59=>106|3=>3|5=>5|46=>163|146=>271|51=>218|n=>n,fun|1=>2|n=>n⟩
def Tryz.laysM138_ren:Go.Shelf.Ren:=⟨fun|138=>166|195=>224|218=>226|143=>167|219=>164|217=>220|225=>221|224=>222|267=>223|266=>259|314=>260|n=>n,fun|9=>9|3=>3|4=>4|5=>5|0=>0|46=>163|146=>271|51=>218|n=>n,fun|1=>2|n=>n⟩
def Tryz.lays221_ren:Go.Shelf.Ren:=⟨fun|221=>118|268=>165|138=>166|143=>167|195=>224|197=>225|218=>226|219=>164|260=>261|217=>220|225=>221|224=>222|267=>223|266=>259|314=>260|n=>n,fun|9=>9|3=>3|31=>24|4=>4|0=>0|105=>237|21=>21|5=>5|46=>163|119=>181|139=>290|138=>289|146=>271|51=>218|n=>n,fun|1=>2|3=>6|4=>7|n=>n⟩
def Tryz.lays146_ren:Go.Shelf.Ren:=⟨fun|146=>69|221=>118|268=>165|138=>166|143=>167|195=>224|197=>225|218=>226|219=>164|260=>261|217=>220|225=>221|224=>222|267=>223|266=>259|314=>260|n=>n,fun|9=>9|31=>24|3=>3|4=>4|0=>0|105=>237|21=>21|5=>5|46=>163|119=>181|139=>290|138=>289|146=>271|51=>218|n=>n,fun|1=>2|3=>6|4=>7|n=>n⟩
def Tryz.lays157_ren:Go.Shelf.Ren:=⟨fun|157=>108|229=>156|199=>157|261=>208|311=>249|312=>250|n=>n,fun|9=>9|31=>24|3=>3|5=>5|4=>4|119=>181|0=>0|40=>183|152=>215|21=>21|154=>217|51=>218|141=>220|196=>254|193=>251|198=>257|49=>255|194=>252|201=>260|226=>281|46=>163|227=>282|n=>n,fun|0=>0|6=>1|n=>n⟩
def Tryz.laysM146_ren:Go.Shelf.Ren:=⟨fun|146=>69|221=>118|268=>165|138=>166|143=>167|195=>224|197=>225|218=>226|219=>164|260=>261|217=>220|225=>221|224=>222|267=>223|266=>259|314=>260|n=>n,fun|9=>9|31=>24|3=>3|4=>4|0=>0|105=>237|21=>21|5=>5|46=>163|119=>181|139=>290|138=>289|146=>271|51=>218|n=>n,fun|1=>2|3=>6|4=>7|n=>n⟩
def Tryz.laysM157_ren:Go.Shelf.Ren:=⟨fun|157=>108|229=>156|199=>157|261=>208|311=>249|312=>250|n=>n,fun|9=>9|31=>24|3=>3|5=>5|4=>4|119=>181|0=>0|40=>183|152=>215|21=>21|154=>217|51=>218|141=>220|196=>254|193=>251|198=>257|49=>255|194=>252|201=>260|226=>281|46=>163|227=>282|n=>n,fun|0=>0|6=>1|n=>n⟩
def Tryz.lays199_ren:Go.Shelf.Ren:=⟨fun|199=>157|261=>208|311=>249|312=>250|n=>n,fun|21=>21|4=>4|51=>218|141=>220|0=>0|196=>254|193=>251|3=>3|198=>257|49=>255|194=>252|201=>260|226=>281|46=>163|227=>282|n=>n,fun|6=>1|n=>n⟩
def Tryz.lays260_ren:Go.Shelf.Ren:=⟨fun|260=>261|n=>n,fun|9=>9|21=>21|3=>3|4=>4|5=>5|119=>181|0=>0|46=>163|139=>290|138=>289|n=>n,fun|3=>6|4=>7|n=>n⟩
def Tryz.lays311_ren:Go.Shelf.Ren:=⟨fun|311=>249|n=>n,fun|193=>251|49=>255|4=>4|3=>3|0=>0|226=>281|198=>257|46=>163|n=>n,fun|n=>n⟩
def Tryz.lays261_ren:Go.Shelf.Ren:=⟨fun|261=>208|311=>249|312=>250|n=>n,fun|141=>220|21=>21|4=>4|0=>0|196=>254|193=>251|3=>3|51=>218|198=>257|49=>255|194=>252|201=>260|226=>281|46=>163|227=>282|n=>n,fun|n=>n⟩
def Tryz.lays312_ren:Go.Shelf.Ren:=⟨fun|312=>250|n=>n,fun|194=>252|51=>218|4=>4|3=>3|0=>0|227=>282|201=>260|46=>163|n=>n,fun|n=>n⟩
def Tryz.laysNm216_ren:Go.Shelf.Ren:=⟨fun|16=>169|n=>n,fun|24=>24|9=>9|4=>4|n=>n,fun|n=>n⟩
end Go.Proofs
namespace Go.Proofs.YtlimlolciekimaaGreatDoor
open Go.ChangeShapes Go.WideShapes Go.ChangeAt Go.RowKit
def downOf (l:List UInt8):Int:=if isStrip l=true then cnt 100 l else 0
def forwardOf (l:List UInt8):Int:=if isStrip l=true then cnt 102 l else 0
def isStepsB (n:Int):Bool:=inB n 1 8
theorem strCount (s:ByteArray) (c:UInt8) (w:World) :
  Calls Tryz.prog 166 #[.string s,.string ⟨#[c]⟩] w fun e w'=>e=.returned (.int .i64 (cnt c s.data.toList))∧w=w' :=
 (Tryz.strings_Count_one s c w).mono fun _ _ ⟨h1,h2⟩=>⟨h1,h2.symm⟩
theorem i_IsStrip (s:ByteArray) (w:World) (hs:s.size≤maxLen) :
  Calls Tryz.prog 168 #[.string s] w fun e w'=>e=.returned (.bool (isStrip s.data.toList))∧w=w':=by
 unfold maxLen at hs
 have hd:=cnt_le 100 s.data.toList
 have hd2:=cnt_le 102 s.data.toList
 have h3:=cnt_two s.data.toList
 have hlen:s.data.toList.length=s.size:=by simp
 rw [hlen] at hd hd2 h3
 cases hE:((cnt 100 s.data.toList:Int)+(cnt 102 s.data.toList:Int)==(s.size:Int))
 ·have HE:(cnt 100 s.data.toList+cnt 102 s.data.toList==s.data.toList.length)=false:=by
   rw [beq_eq_false_iff_ne] at hE ⊢;omega
  have HE':=Lib.hid HE
  clear HE hlen
  go_enter Tryz.func168,Tryz.ntmps168
  go_wp2_with (first|(go_at_call 166;refine (strCount _ _ _).mono ?_;rintro e w' ⟨rfl,rfl⟩)|(go_at_call 71;refine (i_within _ _ _ _).mono ?_;rintro e w' ⟨rfl,rfl⟩))
  go_ret
  exact ⟨ret_bool (by unfold isStrip;rw [HE'.out];rfl),rfl⟩
 ·have HE:(cnt 100 s.data.toList+cnt 102 s.data.toList==s.data.toList.length)=true:=by
   rw [beq_iff_eq] at hE ⊢;omega
  have HE':=Lib.hid HE
  clear HE hlen
  cases hA:inB (cnt 100 s.data.toList) 1 8 <;> cases hB:inB (cnt 102 s.data.toList) 1 8 <;>
  ·go_enter Tryz.func168,Tryz.ntmps168
   go_wp2_with (first|(go_at_call 166;refine (strCount _ _ _).mono ?_;rintro e w' ⟨rfl,rfl⟩)|(go_at_call 71;refine (i_within _ _ _ _).mono ?_;rintro e w' ⟨rfl,rfl⟩))
   go_ret
   exact ⟨ret_bool (by unfold isStrip;rw [HE'.out,hA,hB];rfl),rfl⟩
theorem i_DownOf (s:ByteArray) (w:World) (hs:s.size≤maxLen) :
  Calls Tryz.prog 119 #[.string s] w fun e w'=>e=.returned (.int .i64 (downOf s.data.toList))∧w=w':=by
 cases hI:isStrip s.data.toList <;>
 ·go_enter Tryz.func119,Tryz.ntmps119
  go_wp2_with (first|(go_at_call 166;refine (strCount _ _ _).mono ?_;rintro e w' ⟨rfl,rfl⟩)|(go_at_call 168;refine (i_IsStrip _ _ hs).mono ?_;rintro e w' ⟨rfl,rfl⟩))
  go_ret
  exact ⟨ret_int (by unfold downOf;rw [hI];rfl),rfl⟩
theorem i_ForwardOf (s:ByteArray) (w:World) (hs:s.size≤maxLen) :
  Calls Tryz.prog 120 #[.string s] w fun e w'=>e=.returned (.int .i64 (forwardOf s.data.toList))∧w=w':=by
 cases hI:isStrip s.data.toList <;>
 ·go_enter Tryz.func120,Tryz.ntmps120
  go_wp2_with (first|(go_at_call 166;refine (strCount _ _ _).mono ?_;rintro e w' ⟨rfl,rfl⟩)|(go_at_call 168;refine (i_IsStrip _ _ hs).mono ?_;rintro e w' ⟨rfl,rfl⟩))
  go_ret
  exact ⟨ret_int (by unfold forwardOf;rw [hI];rfl),rfl⟩
theorem s_DownOf (s:ByteArray) (w:World) (hs:s.size≤maxLen) :
  Calls Tryz.prog 151 #[.string s] w fun e w'=>e=.returned (.int .i64 (downOf s.data.toList))∧w=w':=by
 cases hI:isStrip s.data.toList <;>
 ·go_enter Tryz.func151,Tryz.ntmps151
  go_wp2_with (first|(go_at_call 205;refine (s_l02Count _ 100 _ hs).mono ?_;rintro e w' ⟨rfl,rfl⟩)|(go_at_call 204;refine (s_IsStrip _ _ hs).mono ?_;rintro e w' ⟨rfl,rfl⟩))
  go_ret
  exact ⟨ret_int (by unfold downOf;rw [hI];rfl),rfl⟩
theorem s_ForwardOf (s:ByteArray) (w:World) (hs:s.size≤maxLen) :
  Calls Tryz.prog 152 #[.string s] w fun e w'=>e=.returned (.int .i64 (forwardOf s.data.toList))∧w=w':=by
 cases hI:isStrip s.data.toList <;>
 ·go_enter Tryz.func152,Tryz.ntmps152
  go_wp2_with (first|(go_at_call 205;refine (s_l02Count _ 102 _ hs).mono ?_;rintro e w' ⟨rfl,rfl⟩)|(go_at_call 204;refine (s_IsStrip _ _ hs).mono ?_;rintro e w' ⟨rfl,rfl⟩))
  go_ret
  exact ⟨ret_int (by unfold forwardOf;rw [hI];rfl),rfl⟩
theorem i_isSteps (n:Int) (w:World) :
  Calls Tryz.prog 121 #[.int .i64 n] w fun e w'=>e=.returned (.bool (isStepsB n))∧w=w':=by
 go_enter Tryz.func121,Tryz.ntmps121
 go_wp2_with (go_at_call 71;refine (i_within _ _ _ _).mono ?_;rintro e w' ⟨rfl,rfl⟩)
 go_ret
 exact ⟨rfl,rfl⟩
theorem s_l02Frame (d f:Int) (w:World) :
  Calls Tryz.prog 150 #[.int .i64 d,.int .i64 f] w fun e w'=>e=.returned (.bool (isStepsB d&&isStepsB f))∧w=w':=by
 cases h1:inB d 1 8 <;> cases h2:inB f 1 8 <;>
 ·go_enter Tryz.func150,Tryz.ntmps150
  go_wp2_with (go_at_call 95;refine (s_l01In _ _ _ _).mono ?_;rintro e w' ⟨rfl,rfl⟩)
  go_ret
  exact ⟨ret_bool (by unfold isStepsB;rw [h1,h2];rfl),rfl⟩
theorem zs1 {a b:Nat} (h:a<b):a<b∧a≤b:=⟨by omega,by omega⟩
theorem zs2 {a b:Nat} (h:a+1<b):a<b∧a≤b∧a+1<b∧a+1≤b:=⟨by omega,by omega,by omega,by omega⟩
theorem zs3 {a b:Nat} (h:a+1+1<b):a<b∧a≤b∧a+1<b∧a+1≤b∧a+1+1<b∧a+1+1≤b:=⟨by omega,by omega,by omega,by omega,by omega,by omega⟩
theorem zs4 {a b:Nat} (h:a+1+1+1<b):a<b∧a≤b∧a+1<b∧a+1≤b∧a+1+1<b∧a+1+1≤b∧a+1+1+1<b∧a+1+1+1≤b:=⟨by omega,by omega,by omega,by omega,by omega,by omega,by omega,by omega⟩
theorem zs5 {a b:Nat} (h:a+1+1+1+1<b):a<b∧a≤b∧a+1<b∧a+1≤b∧a+1+1<b∧a+1+1≤b∧a+1+1+1<b∧a+1+1+1≤b∧a+1+1+1+1<b∧a+1+1+1+1≤b:=⟨by omega,by omega,by omega,by omega,by omega,by omega,by omega,by omega,by omega,by omega⟩
theorem zs6 {a b:Nat} (h:a+1+1+1+1+1<b):a<b∧a≤b∧a+1<b∧a+1≤b∧a+1+1<b∧a+1+1≤b∧a+1+1+1<b∧a+1+1+1≤b∧a+1+1+1+1<b∧a+1+1+1+1≤b∧a+1+1+1+1+1<b∧a+1+1+1+1+1≤b:=⟨by omega,by omega,by omega,by omega,by omega,by omega,by omega,by omega,by omega,by omega,by omega,by omega⟩
theorem block_of_add (a:Addr) (n:Nat):(a.add n).block=a.block:=by unfold Addr.add;split <;> rfl
theorem add_of_add (a:Addr) (i j:Nat):(a.add i).add j=a.add (i+j):=by
 unfold Addr.add
 by_cases hi:i=0 <;> by_cases hj:j=0 <;> simp [hi,hj,Nat.add_assoc]
def Reads (w:World) (B size:Nat) (A:Option Addr) (n:Nat) (xs:List Value):Prop :=
 xs.length=n * size∧(0<n→∃ ad,A=some ad∧ad.block<B∧∀ j u,xs[j]?=some u→w.cell? (ad.add j)=some u)
section
variable {w w':World} {B B' size n:Nat} {A:Option Addr} {xs:List Value}
theorem Reads.none_:Reads w B size A 0 []:=⟨by simp,fun h=>absurd h (by omega)⟩
theorem Reads.at_ {k:Nat} (h:Reads w B 1 A n xs) (hk:k<n):∃ ad u,A=some ad∧ad.block<B∧xs[k]?=some u∧w.cell? (ad.add k)=some u:=by
 obtain ⟨ad,e,hb,hc⟩:=h.2 (by omega)
 have hl:k<xs.length:=by have:=h.1;omega
 exact ⟨ad,xs[k],e,hb,List.getElem?_eq_getElem hl,hc k _ (List.getElem?_eq_getElem hl)⟩
theorem Reads.keep (h:Reads w B size A n xs) (hk:∀ p:Addr,p.block<B→w'.cell? p=w.cell? p):Reads w' B size A n xs :=
 ⟨h.1,fun hn=>by
  obtain ⟨ad,e,hb,hc⟩:=h.2 hn
  exact ⟨ad,e,hb,fun j u hu=>(hk _ (by rw [block_of_add];exact hb)).trans (hc j u hu)⟩⟩
theorem Reads.more (h:Reads w B size A n xs) (hB:B≤B'):Reads w B' size A n xs :=
 ⟨h.1,fun hn=>by
  obtain ⟨ad,e,hb,hc⟩:=h.2 hn
  exact ⟨ad,e,by omega,hc⟩⟩
theorem Reads.below (h:Reads w B size A n xs) (hb:Below B w w'):Reads w' B size A n xs:=h.keep fun _ hp=>hb.cell hp
theorem Reads.drew (h:Reads w B size A n xs):Reads w.drew B size A n xs:=h
theorem Reads.drewN (h:Reads w B size A n xs) (k:Nat):Reads (w.drewN k) B size A n xs:=h
theorem Reads.alloc (h:Reads w B size A n xs) (hB:B≤w.heap.size) (o:Obj):Reads (w.alloc o) B size A n xs:=h.keep fun p hp=>World.cell?_alloc_lt w o p (by omega)
theorem Reads.setCell (h:Reads w B size A n xs) {p:Addr} (hB:B≤p.block) (u:Value):Reads (w.setCell p u) B size A n xs :=
 h.keep fun q hq=>World.cell?_setCell_other w p q u (fun e=>by subst e;omega)
theorem Reads.grown (h:Reads w B size A n xs) {row:Option Nat} (hg:w.grownBy w' row) (hB:B≤w.heap.size) (hr:∀ g,row=some g→B≤g):Reads w' B size A n xs :=
 h.keep fun p hp=>World.cell?_of_block (hg.block p.block (by omega) (fun e=>by have:=hr _ e.symm;omega))
theorem Reads.cut (h:Reads w B size A n xs) {k cap:Nat} (hk:k≤n) (hc:n≤cap) :
  Reads w B size (if cap=k then A else A.map (·.add (k * size))) (n - k) (xs.drop (k * size)):=by
 refine ⟨by rw [List.length_drop,h.1,Nat.sub_mul],fun hn=>?_⟩
 obtain ⟨ad,rfl,hb,hcell⟩:=h.2 (by omega)
 rw [if_neg (by omega)]
 refine ⟨ad.add (k * size),rfl,by rw [block_of_add];exact hb,fun j u hu=>?_⟩
 rw [add_of_add]
 exact hcell _ u (by rw [← hu,List.getElem?_drop])
theorem Reads.of_own {base:Nat} {e:TypeId} {c:Nat} (h:w.ownsRow base e size (.slice A n c) n xs):Reads w w.heap.size size A n xs:=by
 refine ⟨h.1,fun hn=>?_⟩
 obtain ⟨g,cap,hv,_,hlt⟩:=h.form hn
 have hA:A=some ⟨g,0,none⟩:=by injection hv
 subst hA
 exact ⟨_,rfl,hlt,h.cells (g:=g) rfl⟩
end
theorem hide {p:Prop} (h:p):Hid p:=h
theorem unhide {p:Prop} (h:Hid p):p:=h
section
variable {P:Program} (w:World)
theorem run_append_of_nil (base:Nat) (t ty e:TypeId) (i:TypeInfo) (size:Nat) (ht:P.underlying t=some (.slice e)) (hi:P.info? e=some i)
  (v:Value) (n:Nat) (xs:List Value) (hown:w.ownsRow base e size v n xs) (c:Nat):(Builtin.append_ #[t,t] ty #[v,.slice none 0 c]).run P w=.ok v w:=by
 rcases hown.2 with ⟨rfl,rfl⟩|⟨g,cap,cur,rfl,_,_,hnc,_⟩
 ·simp [Builtin.append_,run_underlying ht,sizeOf,typeInfo,hi,Builtin.lenOf,Builtin.firstCells]
 ·simp [Builtin.append_,run_underlying ht,sizeOf,typeInfo,hi,Builtin.lenOf,Builtin.firstCells,hnc,storeCells]
theorem run_append_any (base:Nat) (t ty e:TypeId) (i:TypeInfo) (z:Value) (size bytes:Nat) (ht:P.underlying t=some (.slice e)) (hi:P.info? e=some i) (hz:i.zero=some z)
  (hsize:i.size=size) (hby:i.bytes=bytes) (hzs:z.cells.size=size) (hsz:0<size)
  (v:Value) (n:Nat) (xs:List Value) (hown:w.ownsRow base e size v n xs)
  (B:Nat) (A:Option Addr) (m c:Nat) (news:List Value) (hr:Reads w B size A m news) (h1:∀ u∈news,u.oneCell'=true)
  (h63:n+m≤maxLen) (hbytes:(n+m) * bytes≤140737488355328) (hbase:base≤w.heap.size) :
  ∃ v' w',(Builtin.append_ #[t,t] ty #[v,.slice A m c]).run P w=.ok v' w'∧w'.ownsRow base e size v' (n+m) (xs++news)∧w.grownBy w' v.ownBlock ∧
   (v'.ownBlock=v.ownBlock∨v'.ownBlock=some w.heap.size):=by
 rcases A with _|ad
 ·have hm:m=0:=by
   rcases Nat.eq_zero_or_pos m with h0|h0
   ·exact h0
   ·obtain ⟨ad,h,_⟩:=hr.2 h0
    cases h
  subst hm
  have hn:news=[]:=List.eq_nil_of_length_eq_zero (by simpa using hr.1)
  subst hn
  exact ⟨v,w,run_append_of_nil w base t ty e i size ht hi v n xs hown c,by simpa using hown,World.grownBy.refl w _,.inl rfl⟩
 ·have hcells:∀ j u,news[j]?=some u→w.cell? (ad.add j)=some u:=by
   intro j u hu
   rcases Nat.eq_zero_or_pos m with h0|h0
   ·subst h0
    have hn:news=[]:=List.eq_nil_of_length_eq_zero (by simpa using hr.1)
    subst hn
    simp at hu
   ·obtain ⟨ad',h,_,hc⟩:=hr.2 h0
    injection h with h
    subst h
    exact hc j u hu
  obtain ⟨v',w',hrun,h2,h3,_,h5⟩:=run_append_own_at (P:=P) w base t ty e i z size bytes ht hi hz hsize hby hzs hsz v n xs hown ad m c news hr.1 hcells h1 h63 hbytes hbase
  exact ⟨v',w',hrun,h2,h3,h5⟩
theorem wp_append_any {o:Oper} {a:Act} {K:Act→World→Prop} {Q:Exit→Act→World→Prop} (s x:Operand) (t:TypeId)
  (ho:o.op=.call { callee:=.builtin .append,args:=#[s,x],argTypes:=#[t,t] })
  (base:Nat) (e:TypeId) (i:TypeInfo) (z:Value) (size bytes:Nat) (ht:P.underlying t=some (.slice e)) (hi:P.info? e=some i) (hz:i.zero=some z)
  (hsize:i.size=size) (hby:i.bytes=bytes) (hzs:z.cells.size=size) (hsz:0<size)
  (v:Value) (n:Nat) (xs:List Value) (hs:a.eval s=v) (hown:w.ownsRow base e size v n xs)
  (B:Nat) (A:Option Addr) (m c:Nat) (news:List Value) (hx:a.eval x=.slice A m c) (hr:Reads w B size A m news) (h1:∀ u∈news,u.oneCell'=true)
  (h63:n+m≤maxLen) (hbytes:(n+m) * bytes≤140737488355328) (hbase:base≤w.heap.size)
  (h:∀ v' w',w'.ownsRow base e size v' (n+m) (xs++news)→w.grownBy w' v.ownBlock→(v'.ownBlock=v.ownBlock∨v'.ownBlock=some w.heap.size)→K (a.put o.dst v') w'):o.wp P a w K Q:=by
 obtain ⟨v',w',hrun,h2,h3,h4⟩:=run_append_any (P:=P) w base t o.type e i z size bytes ht hi hz hsize hby hzs hsz v n xs hown B A m c news hr h1 h63 hbytes hbase
 unfold Oper.wp execOp
 simp only [ho,resolve,invoke,builtin,Sem.run_bind,Sem.run_pure,Result.andThen_ok,List.map_toArray,List.map_cons,List.map_nil,hs,hx,hrun]
 exact h v' w' h2 h3 h4
theorem wpList_append_any {ops:Array Oper} {rest:List Oper} {o:Oper} {a:Act} {Q:Exit→Act→World→Prop} (hgd:o.guard=none) (s x:Operand) (t:TypeId)
  (ho:o.op=.call { callee:=.builtin .append,args:=#[s,x],argTypes:=#[t,t] })
  (base:Nat) (e:TypeId) (i:TypeInfo) (z:Value) (size bytes:Nat) (ht:P.underlying t=some (.slice e)) (hi:P.info? e=some i) (hz:i.zero=some z)
  (hsize:i.size=size) (hby:i.bytes=bytes) (hzs:z.cells.size=size) (hsz:0<size)
  (v:Value) (n:Nat) (xs:List Value) (hs:a.eval s=v) (hown:w.ownsRow base e size v n xs)
  (B:Nat) (A:Option Addr) (m c:Nat) (news:List Value) (hx:a.eval x=.slice A m c) (hr:Reads w B size A m news) (h1:∀ u∈news,u.oneCell'=true)
  (h63:n+m≤maxLen) (hbytes:(n+m) * bytes≤140737488355328) (hbase:base≤w.heap.size)
  (h:∀ v' w',w'.ownsRow base e size v' (n+m) (xs++news)→w.grownBy w' v.ownBlock→(v'.ownBlock=v.ownBlock∨v'.ownBlock=some w.heap.size)→wpList P ops Q rest (a.put o.dst v') w'):wpList P ops Q (o :: rest) a w :=
 wpList_plain hgd fun _ hK=>wp_append_any w s x t ho base e i z size bytes ht hi hz hsize hby hzs hsz v n xs hs hown B A m c news hx hr h1 h63 hbytes hbase fun v' w' h2 h3 h4=>hK _ _ (h v' w' h2 h3 h4)
theorem step_append_any {ops:Array Oper} {o:Oper} {a:Act} {K:Act→World→Prop} {Q:Exit→Act→World→Prop} {E:Prop} (hgd:o.guard=none) (s x:Operand) (t:TypeId)
  (ho:o.op=.call { callee:=.builtin .append,args:=#[s,x],argTypes:=#[t,t] })
  (base:Nat) (e:TypeId) (i:TypeInfo) (z:Value) (size bytes:Nat) (ht:P.underlying t=some (.slice e)) (hi:P.info? e=some i) (hz:i.zero=some z)
  (hsize:i.size=size) (hby:i.bytes=bytes) (hzs:z.cells.size=size) (hsz:0<size)
  (v:Value) (n:Nat) (xs:List Value) (hs:a.eval s=v) (hown:w.ownsRow base e size v n xs)
  (B:Nat) (A:Option Addr) (m c:Nat) (news:List Value) (hx:a.eval x=.slice A m c) (hr:Reads w B size A m news) (h1:∀ u∈news,u.oneCell'=true)
  (h63:n+m≤maxLen) (hbytes:(n+m) * bytes≤140737488355328) (hbase:base≤w.heap.size)
  (h:∀ v' w',w'.ownsRow base e size v' (n+m) (xs++news)→w.grownBy w' v.ownBlock→(v'.ownBlock=v.ownBlock∨v'.ownBlock=some w.heap.size)→K (a.put o.dst v') w') :
  if Region.wanted o (yielded ops a.tmps)=true then Oper.wp P o a w K Q else E:=by
 have hw:Region.wanted o (yielded ops a.tmps)=true:=by simp [Region.wanted,hgd]
 rw [if_pos hw]
 exact wp_append_any w s x t ho base e i z size bytes ht hi hz hsize hby hzs hsz v n xs hs hown B A m c news hx hr h1 h63 hbytes hbase h
end
theorem quiet_add {P:Program} {f:FuncId} {args:Array Value} {w:World} {a n:Nat} {v:Value}
  (h:Calls P f args (w.drewN (a+n)) fun e w'=>e=.returned v∧∃ m,w'=(w.drewN (a+n)).drewN m) :
  Calls P f args (w.drewN (a+n)) fun e w''=>e=.returned v∧∃ m,w''=w.drewN (a+m) :=
 h.mono fun _ _ ⟨he,m,hm⟩=>⟨he,n+m,by rw [hm,World.drewN_drewN,Nat.add_assoc]⟩
theorem quiet_add_left {P:Program} {f:FuncId} {args:Array Value} {w:World} {a n:Nat} {v:Value}
  (h:Calls P f args (w.drewN (a+n)) fun e w'=>e=.returned v∧w.drewN (a+n)=w') :
  Calls P f args (w.drewN (a+n)) fun e w''=>e=.returned v∧∃ m,w''=w.drewN (a+m) :=
 h.mono fun _ _ ⟨he,hm⟩=>⟨he,n,hm.symm⟩
theorem quiet_left {P:Program} {f:FuncId} {args:Array Value} {w:World} {n:Nat} {v:Value}
  (h:Calls P f args (w.drewN n) fun e w'=>e=.returned v∧w.drewN n=w'):Calls P f args (w.drewN n) fun e w''=>e=.returned v∧∃ m,w''=w.drewN m :=
 h.mono fun _ _ ⟨he,hm⟩=>⟨he,n,hm.symm⟩
theorem below_drewN {B:Nat} {a w:World} (h:Below B a w) (n:Nat):Below B a (w.drewN n):=⟨h.os,h.tape,h.output,h.size,h.block⟩
theorem only_drewN {a w:World} {row:Option Nat} (h:a.grownBy w row) (n:Nat):a.grownBy (w.drewN n) row:=⟨h.os,h.tape,h.output,h.size,h.block⟩
theorem only_setCell {a w:World} {g:Nat} (h:a.grownBy w (some g)) {p:Addr} (hp:p.block=g∨a.heap.size≤p.block) (u:Value):a.grownBy (w.setCell p u) (some g) :=
 ⟨h.os,h.tape,h.output,by simpa [World.setCell] using h.size,fun i hi hne=>(Below.heap_setCell w p u i (by
  rintro rfl
  rcases hp with hp|hp
  ·exact hne (by rw [hp])
  ·omega)).trans (h.block i hi hne)⟩
theorem grown_of_below {a w:World} (h:Below a.heap.size a w) (row:Option Nat):a.grownBy w row:=⟨h.os,h.tape,h.output,h.size,fun i hi _=>h.block i hi⟩
theorem only_trans {a b c:World} {row:Option Nat} (h:a.grownBy b row) (k:b.grownBy c row):a.grownBy c row :=
 ⟨k.os.trans h.os,k.tape.trans h.tape,k.output.trans h.output,Nat.le_trans h.size k.size,fun i hi hne=>(k.block i (Nat.lt_of_lt_of_le hi h.size) hne).trans (h.block i hi hne)⟩
theorem own_below {w w':World} {base:Nat} {e:TypeId} {size:Nat} {v:Value} {n:Nat} {xs:List Value} (h:w.ownsRow base e size v n xs) (hb:Below w.heap.size w w'):w'.ownsRow base e size v n xs :=
 h.kept (grown_of_below hb none) (by cases hv:v.ownBlock <;> simp)
theorem only_below_B {a b c:World} {g:Nat} (h:Below a.heap.size a b) (k:b.grownBy c (some g)) (hg:a.heap.size≤g:=by first|omega|simp):Below a.heap.size a c :=
 ⟨k.os.trans h.os,k.tape.trans h.tape,k.output.trans h.output,Nat.le_trans h.size k.size,fun i hi=>(k.block i (Nat.lt_of_lt_of_le hi h.size) (by intro e;injection e;omega)).trans (h.block i hi)⟩
structure Upper (B:Nat) (a w:World):Prop where
 size:a.heap.size≤w.heap.size
 block:∀ g,B≤g→g<a.heap.size→w.heap[g]?=a.heap[g]?
theorem Upper.refl (B:Nat) (a:World):Upper B a a:=⟨Nat.le_refl _,fun _ _ _=>rfl⟩
theorem Upper.setCell {B:Nat} {a w:World} (h:Upper B a w) {p:Addr} (hp:p.block<B) (u:Value):Upper B a (w.setCell p u) :=
 ⟨by simpa [World.setCell] using h.size,fun g hg hl=>(Below.heap_setCell _ _ _ _ (by omega)).trans (h.block g hg hl)⟩
theorem Upper.alloc {B:Nat} {a w:World} (h:Upper B a w) (o:Obj):Upper B a (w.alloc o) :=
 ⟨by have:=h.size;simp;omega,fun g hg hl=>(Below.heap_alloc _ _ _ (by have:=h.size;omega)).trans (h.block g hg hl)⟩
theorem Upper.below {B:Nat} {a w w':World} (h:Upper B a w) (hb:Below w.heap.size w w'):Upper B a w' :=
 ⟨Nat.le_trans h.size hb.size,fun g hg hl=>(hb.block g (by have:=h.size;omega)).trans (h.block g hg hl)⟩
theorem bel {B:Nat} {a w:World} (h:Below B a w:=by repeat (first|(with_reducible exact Below.refl _ _)|(with_reducible assumption)|(with_reducible exact (‹_∧_∧Below _ _ _›).2.2)|(with_reducible refine below_drewN ?_ _)|(with_reducible refine Below.drew ?_)|((with_reducible refine Below.alloc ?_ ?hsd _);(case hsd=>(first|exact Nat.le_refl _|(simp;done)|omega|(simp;omega)|exact (‹_∧_∧Below _ _ _›).2.2.size)))|((with_reducible refine Below.setCell ?_ ?hsd _);(case hsd=>(first|exact Nat.le_refl _|(simp;done)|omega|(simp;omega)|exact (‹_∧_∧Below _ _ _›).2.2.size)))|((with_reducible refine Below.trans ?_ (Below.mono (by with_reducible assumption) ?hsd));(case hsd=>(first|exact Nat.le_refl _|(simp;done)|omega|(simp;omega)|exact (‹_∧_∧Below _ _ _›).2.2.size)))|exact Below.refl _ _|assumption|exact (‹_∧_∧Below _ _ _›).2.2|refine below_drewN ?_ _|refine Below.drew ?_|refine Below.alloc ?_ (by first|exact Nat.le_refl _|(simp;done)|omega|(simp;omega)|exact (‹_∧_∧Below _ _ _›).2.2.size) _|refine Below.setCell ?_ (by first|exact Nat.le_refl _|(simp;done)|omega|(simp;omega)|exact (‹_∧_∧Below _ _ _›).2.2.size) _|refine Below.trans ?_ (Below.mono (by assumption) (by first|exact Nat.le_refl _|(simp;done)|omega|(simp;omega)|exact (‹_∧_∧Below _ _ _›).2.2.size)))):Below B a w:=h
theorem upr {B:Nat} {a w:World} (h:Upper B a w:=by repeat (first|(with_reducible exact Upper.refl _ _)|(with_reducible refine Upper.drew ?_)|(with_reducible refine Upper.drewN ?_ _)|((with_reducible refine Upper.setCell ?_ ?hsd _);(case hsd=>(first|exact Nat.le_refl _|(simp;done)|omega|(simp;omega)|exact (‹_∧_∧Below _ _ _›).2.2.size)))|(with_reducible refine Upper.alloc ?_ _)|(with_reducible refine Upper.below ?_ (by with_reducible assumption))|exact Upper.refl _ _|refine Upper.drew ?_|refine Upper.drewN ?_ _|refine Upper.setCell ?_ (by first|exact Nat.le_refl _|(simp;done)|omega|(simp;omega)|exact (‹_∧_∧Below _ _ _›).2.2.size) _|refine Upper.alloc ?_ _|refine Upper.below ?_ (by assumption))):Upper B a w:=h
theorem own_up {w w':World} {base base':Nat} {e:TypeId} {size:Nat} {v:Value} {n:Nat} {xs:List Value} (h:w.ownsRow base e size v n xs) (hu:Upper base w w') (hb:base'≤base):w'.ownsRow base' e size v n xs:=by
 refine ⟨h.1,?_⟩
 rcases h.2 with hn|⟨g,cap,cur,rfl,hbg,hgg,rest⟩
 ·exact .inl hn
 ·exact .inr ⟨g,cap,cur,rfl,Nat.le_trans hb hbg,(hu.block g hbg (Array.getElem?_eq_some_iff.1 hgg).1).trans hgg,rest⟩
theorem grown_below {B:Nat} {w w':World} {row:Option Nat} (hg:w.grownBy w' row) (hr:∀ k,row=some k→B≤k) (hB:B≤w.heap.size):Below B w w':=(Below.refl B w).grown hg hB hr
theorem bcellB {B:Nat} {W w1:World} (hb:Below B W w1):(∀ b o,b<B→w1.cell? ⟨b,o,none⟩=W.cell? ⟨b,o,none⟩)∧(∀ b o,b<B→w1.frozen? ⟨b,o,none⟩=W.frozen? ⟨b,o,none⟩) :=
 ⟨fun b o h=>hb.cell (p:=⟨b,o,none⟩) h,fun b o h=>hb.frozen (p:=⟨b,o,none⟩) h⟩
theorem own_slice {w:World} {base:Nat} {e:TypeId} {size:Nat} {v:Value} {n:Nat} {xs:List Value} (h:w.ownsRow base e size v n xs):∃ A c,v=.slice A n c:=by
 rcases h.2 with ⟨rfl,h0⟩|⟨g,cap,cur,rfl,_⟩
 ·exact ⟨none,0,by rw [h0]⟩
 ·exact ⟨_,_,rfl⟩
section
variable {P:Program} (w:World)
theorem step_append_sl {ops:Array Oper} {o:Oper} {a:Act} {K:Act→World→Prop} {Q:Exit→Act→World→Prop} {E:Prop} (hgd:o.guard=none) (s x:Operand) (t:TypeId)
  (ho:o.op=.call { callee:=.builtin .append,args:=#[s,x],argTypes:=#[t,t] })
  (base:Nat) (e:TypeId) (i:TypeInfo) (z:Value) (size bytes:Nat) (ht:P.underlying t=some (.slice e)) (hi:P.info? e=some i) (hz:i.zero=some z)
  (hsize:i.size=size) (hby:i.bytes=bytes) (hzs:z.cells.size=size) (hsz:0<size)
  (v:Value) (n:Nat) (xs:List Value) (hs:a.eval s=v) (hown:w.ownsRow base e size v n xs)
  (B:Nat) (A:Option Addr) (m c:Nat) (news:List Value) (hx:a.eval x=.slice A m c) (hr:Reads w B size A m news) (h1:∀ u∈news,u.oneCell'=true)
  (h63:n+m≤maxLen) (hbytes:(n+m) * bytes≤140737488355328) (hbase:base≤w.heap.size)
  (h:∀ A' c' w',w'.ownsRow base e size (.slice A' (n+m) c') (n+m) (xs++news)→Below base w w'→K (a.put o.dst (.slice A' (n+m) c')) w') :
  if Region.wanted o (yielded ops a.tmps)=true then Oper.wp P o a w K Q else E:=by
 refine step_append_any w hgd s x t ho base e i z size bytes ht hi hz hsize hby hzs hsz v n xs hs hown B A m c news hx hr h1 h63 hbytes hbase ?_
 intro v' w' h2 h3 h4
 obtain ⟨A',c',rfl⟩:=own_slice h2
 exact h A' c' w' h2 (grown_below h3 (fun k hk=>(hown.lt k hk).1) hbase)
end
theorem bcell {W w1:World} (hb:Below W.heap.size W w1):(∀ b o,b<W.heap.size→w1.cell? ⟨b,o,none⟩=W.cell? ⟨b,o,none⟩)∧(∀ b o,b<W.heap.size→w1.frozen? ⟨b,o,none⟩=W.frozen? ⟨b,o,none⟩) :=
 ⟨fun b o h=>hb.cell (p:=⟨b,o,none⟩) h,fun b o h=>hb.frozen (p:=⟨b,o,none⟩) h⟩
theorem keep_of {B:Nat} {a W:World} (h:Below B a W):(∀ b o,b<B→W.cell? ⟨b,o,none⟩=a.cell? ⟨b,o,none⟩)∧(∀ b o,b<B→W.frozen? ⟨b,o,none⟩=a.frozen? ⟨b,o,none⟩)∧Below B a W :=
 ⟨fun b o hb=>h.cell (p:=⟨b,o,none⟩) hb,fun b o hb=>h.frozen (p:=⟨b,o,none⟩) hb,h⟩
open Go.ChangeShapes Go.WideShapes Go.ChangeAt Go.RowKit
structure Strs (w:World) (B:Nat) (A:Option Addr) (n:Nat) (ss:List ByteArray):Prop where
 rd:Reads w B 1 A n (ss.map Value.string)
 nb:n≤16777216
 sb:∀ s∈ss,s.size≤16777216
section
variable {w w':World} {B B' n:Nat} {A:Option Addr} {ss:List ByteArray}
theorem Strs.len (h:Strs w B A n ss):ss.length=n:=by have:=h.rd.1;simpa using this
theorem Strs.at_ {k:Nat} (h:Strs w B A n ss) (hk:k<n):∃ (hk':k<ss.length) (ad:Addr),A=some ad∧ad.block<B∧w.cell? (ad.add k)=some (.string ss[k])∧ss[k].size≤16777216:=by
 obtain ⟨ad,u,rfl,hb,hx,hc⟩:=h.rd.at_ hk
 have hl:=h.len
 have hk':k<ss.length:=by omega
 refine ⟨hk',ad,rfl,hb,?_,h.sb _ (List.getElem_mem hk')⟩
 rw [hc]
 rw [List.getElem?_map,List.getElem?_eq_getElem hk'] at hx
 simpa using hx.symm
theorem Strs.keep (h:Strs w B A n ss) (hk:∀ p:Addr,p.block<B→w'.cell? p=w.cell? p):Strs w' B A n ss:=⟨h.rd.keep hk,h.nb,h.sb⟩
theorem Strs.more (h:Strs w B A n ss) (hB:B≤B'):Strs w B' A n ss:=⟨h.rd.more hB,h.nb,h.sb⟩
theorem Strs.below (h:Strs w B A n ss) (hb:Below B w w'):Strs w' B A n ss:=⟨h.rd.below hb,h.nb,h.sb⟩
theorem Strs.drewN (h:Strs w B A n ss) (k:Nat):Strs (w.drewN k) B A n ss:=⟨h.rd.drewN k,h.nb,h.sb⟩
theorem Strs.alloc (h:Strs w B A n ss) (hB:B≤w.heap.size) (o:Obj):Strs (w.alloc o) B A n ss:=⟨h.rd.alloc hB o,h.nb,h.sb⟩
end
def stripOf (d f:Int) (s:ByteArray):Bool:=(downOf s.data.toList==d)&&(forwardOf s.data.toList==f)
def cardOk (d f:Int) (ss:List ByteArray):Bool:=(isStepsB d&&isStepsB f)&&(inB ss.length 1 10&&ss.all (stripOf d f))
theorem cardOk_no {d f:Int} {ss:List ByteArray} {k:Nat} (hk:k<ss.length) (h:stripOf d f ss[k]=false):cardOk d f ss=false:=by
 have:ss.all (stripOf d f)=false:=by
  rw [List.all_eq_false];exact ⟨ss[k],List.getElem_mem hk,by simp [h]⟩
 unfold cardOk;rw [this];simp
theorem i_CardOk (d f:Int) (A:Option Addr) (n c:Nat) (ss:List ByteArray) (w:World) (hS:Strs w w.heap.size A n ss) :
  Calls Tryz.prog 70 #[.agg #[.int .i64 d,.int .i64 f,.slice A n c]] w fun e w'=>e=.returned (.bool (cardOk d f ss))∧Below w.heap.size w w':=by
 have hn:=hS.nb
 go_enter Tryz.func70,Tryz.ntmps70
 go_wp2
 go_loopw [4,8] (fun s i wr=>∃ k m:Nat,k≤n∧i=.int .i64 k∧wr=(w.alloc (.cells #[.int .i64 d,.int .i64 f,.slice A n c] 26)).drewN m∧(ss.take k).all (stripOf d f)=true) (fun _ i _=>n - (intOf i).toNat)
 case atStart=>exact ⟨0,0,Nat.zero_le _,rfl,rfl,by simp⟩
 case round =>
  obtain ⟨k,m,hk,rfl,rfl,hall⟩:=hrel
  by_cases hlt:k<n
  ·obtain ⟨hk',ad,rfl,hab,hc,hsb⟩:=hS.at_ hlt
   have hab':ad.block≠w.heap.size:=by omega
   have hcc:∀ (o:Obj),(w.alloc o).cell? (ad.add k)=some (.string ss[k]):=fun o=>by
    rw [World.cell?_alloc_lt _ _ _ (by rw [block_of_add];exact hab)];exact hc
   have hq1:∀ W:World,Calls Tryz.prog 119 #[.string ss[k]] W fun e w'=>e=.returned (.int .i64 (downOf ss[k].data.toList))∧W=w':=fun W=>i_DownOf _ _ (by unfold maxLen;omega)
   have hq2:∀ W:World,Calls Tryz.prog 120 #[.string ss[k]] W fun e w'=>e=.returned (.int .i64 (forwardOf ss[k].data.toList))∧W=w':=fun W=>i_ForwardOf _ _ (by unfold maxLen;omega)
   have HQ1:=hide hq1
   have HQ2:=hide hq2
   clear hq1 hq2
   have hts:ss.take (k+1)=ss.take k++[ss[k]]:=by rw [List.take_succ_eq_append_getElem hk']
   have HT:=Lib.hid hts
   have HA:=Lib.hid hall
   clear hts hall
   cases h1:(downOf ss[k].data.toList != d)
   ·cases h2:(forwardOf ss[k].data.toList != f)
    ·go_wp2
     go_quiet (((first|(go_at_call 119;first|exact quiet_left (unhide HQ1 _)|exact quiet_add_left (unhide HQ1 _))|(go_at_call 120;first|exact quiet_left (unhide HQ2 _)|exact quiet_add_left (unhide HQ2 _)))))
     go_wp2
     go_roundw
     case rel =>
      refine ⟨k+1,_,by omega,by go_num,rfl,?_⟩
      rw [HT.out,List.all_append,HA.out]
      simp at h1 h2
      simp [stripOf,h1,h2]
     case measure=>simp [intOf];omega
    ·have hfin:cardOk d f ss=false:=cardOk_no hk' (by simp at h2;simp [stripOf,h2])
     have HF:=Lib.hid hfin
     clear hfin
     go_wp2
     go_quiet (((first|(go_at_call 119;first|exact quiet_left (unhide HQ1 _)|exact quiet_add_left (unhide HQ1 _))|(go_at_call 120;first|exact quiet_left (unhide HQ2 _)|exact quiet_add_left (unhide HQ2 _)))))
     go_wp2
     go_ret
     exact ⟨ret_bool HF.out.symm,bel⟩
   ·have hfin:cardOk d f ss=false:=cardOk_no hk' (by simp at h1;simp [stripOf,h1])
    have HF:=Lib.hid hfin
    clear hfin
    go_wp2
    go_quiet (((first|(go_at_call 119;first|exact quiet_left (unhide HQ1 _)|exact quiet_add_left (unhide HQ1 _))|(go_at_call 120;first|exact quiet_left (unhide HQ2 _)|exact quiet_add_left (unhide HQ2 _)))))
    go_wp2
    go_ret
    exact ⟨ret_bool HF.out.symm,bel⟩
  ·have hk2:k=n:=by omega
   have hl:=hS.len
   have ht:ss.take k=ss:=List.take_of_length_le (by omega)
   rw [ht] at hall
   have HA:=Lib.hid hall
   have HL:=Lib.hid hl
   clear hall ht hl
   subst hk2
   cases h1:isStepsB d <;> cases h2:isStepsB f <;> cases h3:inB k 1 10 <;>
   ·go_wp2_with (first|(go_at_call 121;refine (i_isSteps _ _).mono ?_;rintro e w' ⟨rfl,rfl⟩)|(go_at_call 71;refine (i_within _ _ _ _).mono ?_;rintro e w' ⟨rfl,rfl⟩))
    go_ret
    exact ⟨ret_bool (by unfold cardOk;rw [HA.out,HL.out,h1,h2,h3];rfl),bel⟩
theorem s_CardOk (d f:Int) (A:Option Addr) (n c:Nat) (ss:List ByteArray) (w:World) (hS:Strs w w.heap.size A n ss) :
  Calls Tryz.prog 97 #[.agg #[.int .i64 d,.int .i64 f,.slice A n c]] w fun e w'=>e=.returned (.bool (cardOk d f ss))∧Below w.heap.size w w':=by
 have hn:=hS.nb
 have hl:=hS.len
 cases h1:(isStepsB d&&isStepsB f)
 ·have HF:Hid (cardOk d f ss=false):=by unfold Hid cardOk;rw [h1];rfl
  go_enter Tryz.func97,Tryz.ntmps97
  go_wp2_with (first|(go_at_call 150;refine (s_l02Frame _ _ _).mono ?_;rintro e w' ⟨rfl,rfl⟩)|(go_at_call 95;refine (s_l01In _ _ _ _).mono ?_;rintro e w' ⟨rfl,rfl⟩))
  go_ret
  exact ⟨ret_bool HF.out.symm,bel⟩
 ·cases h2:inB n 1 10
  ·have HF:Hid (cardOk d f ss=false):=by unfold Hid cardOk;rw [h1,hl,h2];rfl
   have HL:=Lib.hid hl
   clear hl
   go_enter Tryz.func97,Tryz.ntmps97
   go_wp2_with (first|(go_at_call 150;refine (s_l02Frame _ _ _).mono ?_;rintro e w' ⟨rfl,rfl⟩)|(go_at_call 95;refine (s_l01In _ _ _ _).mono ?_;rintro e w' ⟨rfl,rfl⟩))
   go_ret
   exact ⟨ret_bool HF.out.symm,bel⟩
  ·have HL:=Lib.hid hl
   clear hl
   have h1':=Lib.hid h1
   have h2':=Lib.hid h2
   go_enter Tryz.func97,Tryz.ntmps97
   go_wp2_with (first|(go_at_call 150;refine (s_l02Frame _ _ _).mono ?_;rintro e w' ⟨rfl,rfl⟩)|(go_at_call 95;refine (s_l01In _ _ _ _).mono ?_;rintro e w' ⟨rfl,rfl⟩))
   go_loopw [3] (fun i wr=>∃ k m:Nat,k≤n∧i=.int .i64 k∧wr=(w.alloc (.cells #[.int .i64 d,.int .i64 f,.slice A n c] 26)).drewN m∧(ss.take k).all (stripOf d f)=true) (fun i _=>n - (intOf i).toNat)
   case atStart=>exact ⟨0,0,Nat.zero_le _,rfl,rfl,by simp⟩
   case round =>
    obtain ⟨k,m,hk,rfl,rfl,hall⟩:=hrel
    by_cases hlt:k<n
    ·obtain ⟨hk',ad,rfl,hab,hc,hsb⟩:=hS.at_ hlt
     have hab':ad.block≠w.heap.size:=by omega
     have hcc:∀ (o:Obj),(w.alloc o).cell? (ad.add k)=some (.string ss[k]):=fun o=>by
      rw [World.cell?_alloc_lt _ _ _ (by rw [block_of_add];exact hab)];exact hc
     have hq1:∀ W:World,Calls Tryz.prog 151 #[.string ss[k]] W fun e w'=>e=.returned (.int .i64 (downOf ss[k].data.toList))∧W=w':=fun W=>s_DownOf _ _ (by unfold maxLen;omega)
     have hq2:∀ W:World,Calls Tryz.prog 152 #[.string ss[k]] W fun e w'=>e=.returned (.int .i64 (forwardOf ss[k].data.toList))∧W=w':=fun W=>s_ForwardOf _ _ (by unfold maxLen;omega)
     have HQ1:=hide hq1
     have HQ2:=hide hq2
     clear hq1 hq2
     have hts:ss.take (k+1)=ss.take k++[ss[k]]:=by rw [List.take_succ_eq_append_getElem hk']
     have HT:=Lib.hid hts
     have HA:=Lib.hid hall
     clear hts hall
     cases h3:(downOf ss[k].data.toList != d)
     ·cases h4:(forwardOf ss[k].data.toList != f)
      ·go_wp2
       go_quiet (((first|(go_at_call 151;first|exact quiet_left (unhide HQ1 _)|exact quiet_add_left (unhide HQ1 _))|(go_at_call 152;first|exact quiet_left (unhide HQ2 _)|exact quiet_add_left (unhide HQ2 _)))))
       go_wp2
       go_roundw
       case rel =>
        refine ⟨k+1,_,by omega,by go_num,rfl,?_⟩
        rw [HT.out,List.all_append,HA.out]
        simp at h3 h4
        simp [stripOf,h3,h4]
       case measure=>simp [intOf];omega
      ·have hfin:cardOk d f ss=false:=cardOk_no hk' (by simp at h4;simp [stripOf,h4])
       have HF:=Lib.hid hfin
       clear hfin
       go_wp2
       go_quiet (((first|(go_at_call 151;first|exact quiet_left (unhide HQ1 _)|exact quiet_add_left (unhide HQ1 _))|(go_at_call 152;first|exact quiet_left (unhide HQ2 _)|exact quiet_add_left (unhide HQ2 _)))))
       go_wp2
       go_ret
       exact ⟨ret_bool HF.out.symm,bel⟩
     ·have hfin:cardOk d f ss=false:=cardOk_no hk' (by simp at h3;simp [stripOf,h3])
      have HF:=Lib.hid hfin
      clear hfin
      go_wp2
      go_quiet (((first|(go_at_call 151;first|exact quiet_left (unhide HQ1 _)|exact quiet_add_left (unhide HQ1 _))|(go_at_call 152;first|exact quiet_left (unhide HQ2 _)|exact quiet_add_left (unhide HQ2 _)))))
      go_wp2
      go_ret
      exact ⟨ret_bool HF.out.symm,bel⟩
    ·have hk2:k=n:=by omega
     have ht:ss.take k=ss:=List.take_of_length_le (by have:=HL.out;omega)
     rw [ht] at hall
     have HF:Hid (cardOk d f ss=true):=by unfold Hid cardOk;rw [h1'.out,HL.out,h2'.out,hall];rfl
     clear hall ht
     subst hk2
     go_wp2
     go_ret
     exact ⟨ret_bool HF.out.symm,bel⟩
open Go.ChangeShapes Go.WideShapes Go.ChangeAt Go.RowKit
set_option linter.unusedVariables false
set_option maxRecDepth 10000
def digs:Nat→Nat→List UInt8→List UInt8
 |0,_,acc=>acc
 |f+1,k,acc=>if k=0 then acc else digs f (k / 10) ((48+k % 10).toUInt8 :: acc)
def markL (k:Int):List UInt8:=if k≤0 then [109,48] else 109 :: digs k.toNat k.toNat []
def markT (k:Int):ByteArray:=⟨(markL k).toArray⟩
theorem size_one (x:UInt8):(⟨#[x]⟩:ByteArray).size=1:=rfl
theorem own_cell {w:World} {base:Nat} {e:TypeId} {g n c j:Nat} {xs:List Value} (h:w.ownsRow base e 1 (.slice (some ⟨g,0,none⟩) n c) n xs) (hj:j<n):∃ u,w.cell? ⟨g,j,none⟩=some u:=by
 have hl:=h.1
 rw [h.cellAt j (by omega),List.getElem?_eq_getElem (by omega)]
 exact ⟨_,rfl⟩
def marks (k:Int) (n:Nat):List Value:=(List.range n).map fun i=>Value.string (markT (k+(i:Nat)))
def Marked (base:Nat) (v:Value) (n:Nat) (k:Int) (w:World) (e:Ending) (w':World):Prop :=
 e=.returned (.int .i64 (k+n))∧w'.ownsRow base 9 1 v n (marks k n)∧w.grownBy w' v.ownBlock
def eqSS (ss ts:List ByteArray):Bool:=decide (ss=ts)
theorem beq_toList_true {a b:ByteArray} (h:a=b):(a.toList==b.toList)=true:=by rw [h];simp
theorem toList_inj {a b:ByteArray} (h:a.toList=b.toList):a=b:=by
 rw [ByteArray.toList_eq,ByteArray.toList_eq] at h
 exact ba_ext h
theorem beq_toList_false {a b:ByteArray} (h:a≠b):(a.toList==b.toList)=false:=by
 rw [beq_eq_false_iff_ne];exact fun h'=>h (toList_inj h')
def tot:List ByteArray→Nat
 |[]=>0
 |s :: r=>s.size+tot r
def szStrs (ss:List ByteArray) (left:Int):Int:=if left - ss.length - tot ss<0 then -1 else left - ss.length - tot ss
theorem info_str:(Tryz.prog.info? 9).map (fun i=>(i.zero,i.size,i.bytes))=some (some (.string ByteArray.empty),1,16):=by kernel_rfl
def FreshStrs (base:Nat) (ss:List ByteArray) (w:World) (e:Ending) (w':World):Prop :=
 ∃ A c,e=.returned (.slice A ss.length c)∧w'.ownsRow base 9 1 (.slice A ss.length c) ss.length (ss.map Value.string)∧Below w.heap.size w w'
def FreshCard (base:Nat) (d f:Int) (ss:List ByteArray) (w:World) (e:Ending) (w':World):Prop :=
 ∃ A c,e=.returned (.agg #[.int .i64 d,.int .i64 f,.slice A ss.length c])∧w'.ownsRow base 9 1 (.slice A ss.length c) ss.length (ss.map Value.string)∧Below w.heap.size w w'
theorem made_at {e:TypeId} {size:Nat} (W:World) (base k:Nat) (hk:W.heap.size=k) (hb:base≤k):(W.alloc (.cells #[] e)).ownsRow base e size (.slice (some ⟨k,0,none⟩) 0 0) 0 []:=by
 subst hk
 exact World.ownsRow_made W #[] 0 hb (by unfold maxLen;omega) (by simp)
theorem fresh_of {base n:Nat} {v:Value} {ss:List ByteArray} {w w':World} (hl:ss.length=n) (ho:w'.ownsRow base 9 1 v n (ss.map Value.string)) (hb:Below w.heap.size w w'):FreshStrs base ss w (.returned v) w':=by
 subst hl
 rcases ho.2 with ⟨rfl,h0⟩|⟨g,cap,cur,rfl,_⟩
 ·rw [h0] at ho
  refine ⟨none,0,by rw [h0],?_,hb⟩
  rw [h0];exact ho
 ·exact ⟨_,_,rfl,ho,hb⟩
theorem clone_str (B:Nat) (A:Option Addr) (n c:Nat) (ss:List ByteArray) (w:World) (hS:Strs w B A n ss) (hB:B≤w.heap.size) :
  Calls Tryz.prog 169 #[.slice A n c] w (FreshStrs w.heap.size ss w):=by
 have hn:=hS.nb
 have hl:=hS.len
 have hR:=hS.rd
 rcases A with _|ad
 ·have hn0:n=0:=by
   rcases Nat.eq_zero_or_pos n with h0|h0
   ·exact h0
   ·obtain ⟨_,ad,h,_⟩:=hS.at_ h0;cases h
  subst hn0
  have hs0:ss=[]:=List.eq_nil_of_length_eq_zero hl
  subst hs0
  have hnil:=fun W=>Lib.run_eql_slice_nil (P:=Tryz.prog) W 24
  clear hl
  go_enter Tryz.func169,Tryz.ntmps169
  go_wp2
  go_ret
  exact ⟨none,0,rfl,World.ownsRow_nil w _ _ _,Below.refl _ _⟩
 ·have hnil:=fun W=>Lib.run_eql_slice_nil (P:=Tryz.prog) W 24
  obtain ⟨i0,hi0,hz0,hz1,hz2⟩:=info_parts info_str
  have hown:(w.alloc (.cells #[] 9)).ownsRow w.heap.size 9 1 (.slice (some ⟨w.heap.size,0,none⟩) 0 0) 0 []:=World.ownsRow_made w #[] 0 (Nat.le_refl _) (by unfold maxLen;omega) rfl
  have hR1:=hR.alloc hB (.cells #[] 9)
  have hone:∀ u∈ss.map Value.string,u.oneCell'=true:=by
   intro u hu;obtain ⟨s,_,rfl⟩:=List.mem_map.1 hu;rfl
  have HL:=Lib.hid hl
  clear hl
  go_enter Tryz.func169,Tryz.ntmps169
  go_wp2_with (at_builtin;refine wpList_append_any _ rfl (.tmp 5) (.tmp 6) _ rfl w.heap.size 9 i0 _ 1 16 Tryz.underlying24 hi0 hz0 hz1 hz2 rfl (by omega) (.slice (some ⟨w.heap.size,0,none⟩) 0 0) 0 [] rfl hown B (some ad) n c (ss.map Value.string) rfl hR1 hone ?_ ?_ ?_ ?_;(unfold maxLen;omega);omega;(simp);intro v1 w1 hown1 hg1 hat1)
  have hfr:=fresh_of (ss:=ss) (n:=n) HL.out (by simpa using hown1) (((Below.refl _ _).alloc (Nat.le_refl _) _).grown hg1 (by simp) (by intro k hk;simp [Value.ownBlock] at hk;omega))
  have HFR:=hide hfr
  clear hfr hown1 hg1 hat1
  go_ret
  exact (unhide HFR)
theorem i_copied (d f:Int) (B:Nat) (A:Option Addr) (n c:Nat) (ss:List ByteArray) (w:World) (hS:Strs w B A n ss) (hB:B≤w.heap.size) :
  Calls Tryz.prog 122 #[.agg #[.int .i64 d,.int .i64 f,.slice A n c]] w (FreshCard w.heap.size d f ss w):=by
 have hS2:=(hS.alloc hB (.cells #[.int .i64 d,.int .i64 f,.slice A n c] 26)).alloc (by simp;omega) (.cells #[.int .i64 0,.int .i64 0,.slice none 0 0] 26)
 have hB2:B≤((w.alloc (.cells #[.int .i64 d,.int .i64 f,.slice A n c] 26)).alloc (.cells #[.int .i64 0,.int .i64 0,.slice none 0 0] 26)).heap.size:=by simp;omega
 go_enter Tryz.func122,Tryz.ntmps122
 go_wp2
 go_region_held3 (fun W=>(∀ b o,b<w.heap.size+1→W.cell? ⟨b,o,none⟩=((w.alloc (.cells #[.int .i64 d,.int .i64 f,.slice A n c] 26)).alloc (.cells #[.int .i64 0,.int .i64 0,.slice none 0 0] 26)).cell? ⟨b,o,none⟩)∧(∀ b o,b<w.heap.size+1→W.frozen? ⟨b,o,none⟩=((w.alloc (.cells #[.int .i64 d,.int .i64 f,.slice A n c] 26)).alloc (.cells #[.int .i64 0,.int .i64 0,.slice none 0 0] 26)).frozen? ⟨b,o,none⟩)∧Below (w.heap.size+1) ((w.alloc (.cells #[.int .i64 d,.int .i64 f,.slice A n c] 26)).alloc (.cells #[.int .i64 0,.int .i64 0,.slice none 0 0] 26)) W) (exact keep_of bel) (first|(go_at_call 169;have hq:=(‹_∧_∧Below _ _ _›).2.2;refine (clone_str B _ _ _ ss _ ?_ ?_).mono ?_;exact hS2.below (hq.mono (by omega));exact Nat.le_trans hB2 hq.size;rintro e w1 ⟨A1,c1,rfl,ho1,hb1⟩;obtain ⟨hcb,hfb⟩:=bcell hb1))
 go_wp2
 refine bodyPost_ret (v:=.agg #[.int .i64 d,.int .i64 f,.slice A1 ss.length c1]) (by simp [results,Tryz.results122,go_sem,hcb]) rfl ?_
 exact ⟨A1,c1,rfl,own_up ho1 upr (by first|exact Nat.le_refl _|(simp;done)|omega|(simp;omega)|exact (‹_∧_∧Below _ _ _›).2.2.size),bel⟩
theorem s_l05Copy (d f:Int) (B:Nat) (A:Option Addr) (n c:Nat) (ss:List ByteArray) (w:World) (hS:Strs w B A n ss) (hB:B≤w.heap.size) :
  Calls Tryz.prog 181 #[.agg #[.int .i64 d,.int .i64 f,.slice A n c]] w (FreshCard w.heap.size d f ss w):=by
 have hn:=hS.nb
 have hl:=hS.len
 have hS2:=(hS.alloc hB (.cells #[.int .i64 d,.int .i64 f,.slice A n c] 26)).alloc (by simp;omega) (.cells #[.int .i64 0,.int .i64 0,.slice none 0 0] 26)
 have hB2:B≤((w.alloc (.cells #[.int .i64 d,.int .i64 f,.slice A n c] 26)).alloc (.cells #[.int .i64 0,.int .i64 0,.slice none 0 0] 26)).heap.size:=by simp;omega
 obtain ⟨i0,hi0,hz0,hz1,hz2⟩:=info_parts info_str
 have hown:(((w.alloc (.cells #[.int .i64 d,.int .i64 f,.slice A n c] 26)).alloc (.cells #[.int .i64 0,.int .i64 0,.slice none 0 0] 26)).alloc (.cells #[] 9)).ownsRow (w.heap.size+2) 9 1 (.slice (some ⟨w.heap.size+1+1,0,none⟩) 0 0) 0 []:=made_at _ _ _ (by simp) (by omega)
 have hone:∀ u∈ss.map Value.string,u.oneCell'=true:=by
  intro u hu;obtain ⟨s,_,rfl⟩:=List.mem_map.1 hu;rfl
 have HL:=Lib.hid hl
 clear hl
 go_enter Tryz.func181,Tryz.ntmps181
 go_wp2
 go_region_held3 (fun W=>(∀ b o,b<w.heap.size+1→W.cell? ⟨b,o,none⟩=((w.alloc (.cells #[.int .i64 d,.int .i64 f,.slice A n c] 26)).alloc (.cells #[.int .i64 0,.int .i64 0,.slice none 0 0] 26)).cell? ⟨b,o,none⟩)∧(∀ b o,b<w.heap.size+1→W.frozen? ⟨b,o,none⟩=((w.alloc (.cells #[.int .i64 d,.int .i64 f,.slice A n c] 26)).alloc (.cells #[.int .i64 0,.int .i64 0,.slice none 0 0] 26)).frozen? ⟨b,o,none⟩)∧Below (w.heap.size+1) ((w.alloc (.cells #[.int .i64 d,.int .i64 f,.slice A n c] 26)).alloc (.cells #[.int .i64 0,.int .i64 0,.slice none 0 0] 26)) W) (exact keep_of bel) (first|(refine step_append_sl _ rfl (.tmp 7) (.tmp 9) _ rfl (w.heap.size+2) 9 i0 _ 1 16 Tryz.underlying24 hi0 hz0 hz1 hz2 rfl (by omega) (.slice (some ⟨w.heap.size+1+1,0,none⟩) 0 0) 0 [] rfl hown.drew B A n c (ss.map Value.string) rfl ((hS2.rd.alloc hB2 _).drew) hone ?_ ?_ ?_ ?_;(unfold maxLen;omega);omega;(simp);intro A1 c1 w1 ho1 hb1;obtain ⟨hcb,hfb⟩:=bcellB hb1))
 go_wp2
 have hl:=HL.out
 subst hl
 simp only [Nat.zero_add,List.nil_append] at ho1 ⊢
 refine bodyPost_ret (v:=.agg #[.int .i64 d,.int .i64 f,.slice A1 ss.length c1]) (by simp [results,Tryz.results181,go_sem,hcb]) rfl ?_
 exact ⟨A1,c1,rfl,own_up ho1 upr (by first|exact Nat.le_refl _|(simp;done)|omega|(simp;omega)|exact (‹_∧_∧Below _ _ _›).2.2.size),bel⟩
theorem i_hasStrip (d f:Int) (B:Nat) (A:Option Addr) (n c:Nat) (ss:List ByteArray) (k:Int) (w:World) (hS:Strs w B A n ss) (hB:B≤w.heap.size) :
  Calls Tryz.prog 238 #[.agg #[.int .i64 d,.int .i64 f,.slice A n c],.int .i64 k] w fun e w'=>e=.returned (.bool (cardOk d f ss&&inB k 0 ((n:Int) - 1)))∧Below w.heap.size w w':=by
 have hn:=hS.nb
 cases hc:cardOk d f ss <;>
 ·go_enter Tryz.func238,Tryz.ntmps238
  go_wp2_with (first|(go_at_call 70;refine (i_CardOk _ _ _ _ _ ss _ ?_).mono ?_;exact (hS.alloc hB _).more (by simp;omega);rintro e w1 ⟨rfl,hb1⟩;obtain ⟨hcb,hfb⟩:=bcell hb1)|(go_at_call 71;refine (i_within _ _ _ _).mono ?_;rintro e w' ⟨rfl,rfl⟩))
  go_ret
  exact ⟨ret_bool (by simp),bel⟩
def FreshCardB (base:Nat) (d f:Int) (ss:List ByteArray) (b:Bool) (w:World) (e:Ending) (w':World):Prop :=
 ∃ A c,e=.returned (.tuple #[.agg #[.int .i64 d,.int .i64 f,.slice A ss.length c],.bool b])∧w'.ownsRow base 9 1 (.slice A ss.length c) ss.length (ss.map Value.string)∧Below w.heap.size w w'
theorem i_changed_yes (d f:Int) (B:Nat) (A A2:Option Addr) (n c n2 c2:Nat) (ss ts:List ByteArray) (w:World) (hS:Strs w B A n ss) (hT:Strs w B A2 n2 ts) (hB:B≤w.heap.size) (hc:cardOk d f ts=true) :
  Calls Tryz.prog 271 #[.agg #[.int .i64 d,.int .i64 f,.slice A n c],.slice A2 n2 c2] w fun e w'=>e=.returned (.tuple #[.agg #[.int .i64 d,.int .i64 f,.slice A2 n2 c2],.bool true])∧Below w.heap.size w w':=by
 have hT3:=((hT.alloc hB (.cells #[.int .i64 d,.int .i64 f,.slice A n c] 26)).alloc (by simp;omega) (.cells #[.int .i64 0,.int .i64 0,.slice none 0 0] 26)).alloc (by simp;omega) (.cells #[.int .i64 d,.int .i64 f,.slice A2 n2 c2] 26)
 go_enter Tryz.func271,Tryz.ntmps271
 go_wp2_with (first|(go_at_call 70;refine (i_CardOk _ _ _ _ _ ts _ ?_).mono ?_;exact hT3.more (by simp;omega);rintro e w1 ⟨rfl,hb1⟩;obtain ⟨hcb,hfb⟩:=bcell hb1))
 refine bodyPost_ret (v:=.tuple #[.agg #[.int .i64 d,.int .i64 f,.slice A2 n2 c2],.bool true]) (by simp [results,Tryz.results271,go_sem,hcb]) rfl ?_
 exact ⟨rfl,bel⟩
theorem i_changed_no (d f:Int) (B:Nat) (A A2:Option Addr) (n c n2 c2:Nat) (ss ts:List ByteArray) (w:World) (hS:Strs w B A n ss) (hT:Strs w B A2 n2 ts) (hB:B≤w.heap.size) (hc:cardOk d f ts=false) :
  Calls Tryz.prog 271 #[.agg #[.int .i64 d,.int .i64 f,.slice A n c],.slice A2 n2 c2] w (FreshCardB w.heap.size d f ss false w):=by
 have hT3:=((hT.alloc hB (.cells #[.int .i64 d,.int .i64 f,.slice A n c] 26)).alloc (by simp;omega) (.cells #[.int .i64 0,.int .i64 0,.slice none 0 0] 26)).alloc (by simp;omega) (.cells #[.int .i64 d,.int .i64 f,.slice A2 n2 c2] 26)
 have hS3:=((hS.alloc hB (.cells #[.int .i64 d,.int .i64 f,.slice A n c] 26)).alloc (by simp;omega) (.cells #[.int .i64 0,.int .i64 0,.slice none 0 0] 26)).alloc (by simp;omega) (.cells #[.int .i64 d,.int .i64 f,.slice A2 n2 c2] 26)
 go_enter Tryz.func271,Tryz.ntmps271
 go_wp2_with (first|(go_at_call 70;refine (i_CardOk _ _ _ _ _ ts _ ?_).mono ?_;exact hT3.more (by simp;omega);rintro e w1 ⟨rfl,hb1⟩;obtain ⟨hcb,hfb⟩:=bcell hb1;obtain ⟨qaa,qba,qca,qda,qma,qna⟩:=zs3 (show w.heap.size+1+1<w1.heap.size by have hzz:=hb1.size;(try simp at hzz);omega))|(go_at_call 122;refine (i_copied _ _ B _ _ _ ss _ ?_ ?_).mono ?_;exact hS3.below (hb1.mono (by simp;omega));exact Nat.le_trans (by simp;omega) hb1.size;rintro e w2 ⟨A1,c1,rfl,ho2,hb2⟩;obtain ⟨hcb2,hfb2⟩:=bcell hb2;obtain ⟨qea,qfa,qga,qha,qoa,qpa⟩:=zs3 (show w.heap.size+1+1<w2.heap.size by have hzz:=hb2.size;(try simp at hzz);omega)))
 refine bodyPost_ret (v:=.tuple #[.agg #[.int .i64 d,.int .i64 f,.slice A1 ss.length c1],.bool false]) (by simp [results,Tryz.results271,go_sem, *]) rfl ?_
 exact ⟨A1,c1,rfl,own_up ho2 upr (by first|exact Nat.le_refl _|(simp;done)|omega|(simp;omega)|exact (‹_∧_∧Below _ _ _›).2.2.size),bel⟩
def putAt (d f:Int) (ss:List ByteArray) (k:Int) (s:ByteArray):List ByteArray×Bool :=
 if (cardOk d f ss&&inB k 0 ((ss.length:Int) - 1))&&cardOk d f (ss.set k.toNat s) then (ss.set k.toNat s,true) else (ss,false)
theorem Strs.setCell {w:World} {B n:Nat} {A:Option Addr} {ss:List ByteArray} (h:Strs w B A n ss) {p:Addr} (hB:B≤p.block) (u:Value):Strs (w.setCell p u) B A n ss:=⟨h.rd.setCell hB u,h.nb,h.sb⟩
theorem set_map (ss:List ByteArray) (k:Nat) (s:ByteArray):(ss.map Value.string).set k (Value.string s)=(ss.set k s).map Value.string:=by
 rw [List.map_set]
theorem strs_of_own {w:World} {base n c:Nat} {A:Option Addr} {ss:List ByteArray} (h:w.ownsRow base 9 1 (.slice A n c) n (ss.map Value.string)) (hn:n≤16777216) (hs:∀ s∈ss,s.size≤16777216):Strs w w.heap.size A n ss :=
 ⟨Reads.of_own h,hn,hs⟩
theorem inB_iff {x a b:Int}:inB x a b=true↔a≤x∧x≤b:=by simp [inB]
theorem i_WithStrip (d f:Int) (B:Nat) (A:Option Addr) (n c:Nat) (ss:List ByteArray) (k:Int) (s:ByteArray) (w:World) (hS:Strs w B A n ss) (hB:B≤w.heap.size) (hs:s.size≤16777216) :
  Calls Tryz.prog 239 #[.agg #[.int .i64 d,.int .i64 f,.slice A n c],.int .i64 k,.string s] w (FreshCardB w.heap.size d f (putAt d f ss k s).1 (putAt d f ss k s).2 w):=by
 have hn:=hS.nb
 have hl:=hS.len
 have hS2:=(hS.alloc hB (.cells #[.int .i64 d,.int .i64 f,.slice A n c] 26)).alloc (by simp;omega) (.cells #[.int .i64 0,.int .i64 0,.slice none 0 0] 26)
 cases hh:(cardOk d f ss&&inB k 0 ((n:Int) - 1))
 ·have HP:putAt d f ss k s=(ss,false):=by unfold putAt;rw [hl,hh];rfl
  rw [HP]
  go_enter Tryz.func239,Tryz.ntmps239
  go_wp2_with (first|(go_at_call 238;refine (i_hasStrip _ _ B _ _ _ ss _ _ hS2 (by simp;omega)).mono ?_;rintro e w1 ⟨rfl,hb1⟩;obtain ⟨hcb,hfb⟩:=bcell hb1;obtain ⟨qaa,qba,qca,qda⟩:=zs2 (show w.heap.size+1<w1.heap.size by have hzz:=hb1.size;(try simp at hzz);omega))|(go_at_call 122;refine (i_copied _ _ B _ _ _ ss _ (hS2.below (hb1.mono (by simp;omega))) (by omega)).mono ?_;rintro e w2 ⟨A1,c1,rfl,ho2,hb2⟩;obtain ⟨hcb2,hfb2⟩:=bcell hb2;obtain ⟨qea,qfa,qga,qha⟩:=zs2 (show w.heap.size+1<w2.heap.size by have hzz:=hb2.size;(try simp at hzz);omega)))
  refine bodyPost_ret (v:=.tuple #[.agg #[.int .i64 d,.int .i64 f,.slice A1 ss.length c1],.bool false]) (by simp [results,Tryz.results239,go_sem, *]) rfl ?_
  exact ⟨A1,c1,rfl,own_up ho2 upr (by first|exact Nat.le_refl _|(simp;done)|omega|(simp;omega)|exact (‹_∧_∧Below _ _ _›).2.2.size),bel⟩
 ·obtain ⟨hck,hk⟩:cardOk d f ss=true∧inB k 0 ((n:Int) - 1)=true:=by simpa using hh
  obtain ⟨hk0,hk1⟩:=inB_iff.1 hk
  obtain ⟨K,rfl⟩:=Int.eq_ofNat_of_zero_le hk0
  have hKn:K<n:=by omega
  have hsb:∀ x∈ss.set K s,x.size≤16777216:=by
   intro x hx
   rcases List.mem_or_eq_of_mem_set hx with h|h
   ·exact hS.sb x h
   ·rw [h];exact hs
  have HL:=Lib.hid hl
  have HPY:Hid (cardOk d f (ss.set K s)=true→putAt d f ss K s=(ss.set K s,true)):=by
   intro h;unfold putAt;rw [hl,hh];simp [h]
  have HPN:Hid (cardOk d f (ss.set K s)=false→putAt d f ss K s=(ss,false)):=by
   intro h;unfold putAt;rw [hl,hh];simp [h]
  clear hl hck hk
  go_enter Tryz.func239,Tryz.ntmps239
  go_wp2_with (first|(go_at_call 238;refine (i_hasStrip _ _ B _ _ _ ss _ _ hS2 (by simp;omega)).mono ?_;rintro e w1 ⟨rfl,hb1⟩;obtain ⟨hcb,hfb⟩:=bcell hb1;obtain ⟨qaa,qba,qca,qda⟩:=zs2 (show w.heap.size+1<w1.heap.size by have hzz:=hb1.size;(try simp at hzz);omega))|(go_at_call 169;refine (clone_str B _ _ _ ss _ (hS2.below (hb1.mono (by simp;omega))) (by omega)).mono ?_;rintro e w2 ⟨A1,c1,rfl,ho2,hb2⟩;obtain ⟨hcb2,hfb2⟩:=bcell hb2;obtain ⟨qea,qfa,qga,qha⟩:=zs2 (show w.heap.size+1<w2.heap.size by have hzz:=hb2.size;(try simp at hzz);omega);have hKl:K<ss.length:=(by have:=HL.out;omega);obtain ⟨g,cap,hv,hbg,hglt⟩:=ho2.form (by omega);(have hA:A1=some ⟨g,0,none⟩:=(by injection hv));subst hA;clear hv;obtain ⟨u1,hc1⟩:=own_cell ho2 (j:=K) hKl;have hf1:=ho2.frozenAt K))
  have ho3:=(ho2.stored K (.string s)).1
  rw [set_map] at ho3
  have hsz3:(w2.setCell ⟨g,K,none⟩ (.string s)).heap.size=w2.heap.size:=by simp [World.setCell]
  have hT3:Strs (w2.setCell ⟨g,K,none⟩ (.string s)) w2.heap.size (some ⟨g,0,none⟩) ss.length (ss.set K s):=by
   have h:=strs_of_own ho3 (by have:=HL.out;omega) hsb
   rw [hsz3] at h;exact h
  have hS3:Strs (w2.setCell ⟨g,K,none⟩ (.string s)) B A n ss:=((hS2.below (hb1.mono (by simp;omega))).below (hb2.mono (by omega))).setCell (by have:=hb1.size;simp at this;show B≤g;omega) _
  have hlen:(ss.set K s).length=ss.length:=List.length_set
  have HLEN:=Lib.hid hlen
  clear hlen hsz3
  cases hcs:cardOk d f (ss.set K s)
  ·have HP:=Lib.hid (HPN.out hcs)
   refine (i_changed_no _ _ w2.heap.size _ _ _ _ _ _ ss (ss.set K s) _ (hS3.more (by omega)) hT3 (by simp [World.setCell]) hcs).mono ?_
   rintro e w3 ⟨A4,c4,rfl,ho4,hb4⟩
   obtain ⟨hcb4,hfb4⟩:=bcell hb4
   obtain ⟨qia,qja,qka,qla⟩:=zs2 (show w.heap.size+1<w3.heap.size by have hzz:=hb4.size;(try simp at hzz);omega)
   clear hcs
   go_wp2
   refine bodyPost_ret (v:=.tuple #[.agg #[.int .i64 d,.int .i64 f,.slice A4 ss.length c4],.bool false]) (by simp [results,Tryz.results239,go_sem, *]) rfl ?_
   rw [HP.out]
   exact ⟨A4,c4,rfl,own_up ho4 upr (by first|exact Nat.le_refl _|(simp;done)|omega|(simp;omega)|exact (‹_∧_∧Below _ _ _›).2.2.size),bel⟩
  ·have HP:=Lib.hid (HPY.out hcs)
   refine (i_changed_yes _ _ w2.heap.size _ _ _ _ _ _ ss (ss.set K s) _ (hS3.more (by omega)) hT3 (by simp [World.setCell]) hcs).mono ?_
   rintro e w3 ⟨rfl,hb4⟩
   obtain ⟨hcb4,hfb4⟩:=bcell hb4
   obtain ⟨qia,qja,qka,qla⟩:=zs2 (show w.heap.size+1<w3.heap.size by have hzz:=hb4.size;(try simp at hzz);omega)
   have ho4:=own_below ho3 hb4
   clear hcs
   go_wp2
   refine bodyPost_ret (v:=.tuple #[.agg #[.int .i64 d,.int .i64 f,.slice (some ⟨g,0,none⟩) ss.length c1],.bool true]) (by simp [results,Tryz.results239,go_sem, *]) rfl ?_
   rw [HP.out]
   unfold FreshCardB
   dsimp only
   rw [HLEN.out]
   exact ⟨_,c1,rfl,own_up ho4 upr (by first|exact Nat.le_refl _|(simp;done)|omega|(simp;omega)|exact (‹_∧_∧Below _ _ _›).2.2.size),bel⟩
theorem own_cap {w:World} {base n c:Nat} {e:TypeId} {A:Option Addr} {xs:List Value} (h:w.ownsRow base e 1 (.slice A n c) n xs):n≤c∧c≤9223372036854775807:=by
 rcases h.2 with ⟨hv,h0⟩|⟨g',cap,cur,hv,_,_,h1,h2,_⟩
 ·injection hv with _ _ e3;omega
 ·injection hv with _ _ e3;subst e3;unfold maxLen at h2;exact ⟨h1,by omega⟩
theorem grown_drewN (w:World) (q:Nat) (row:Option Nat):w.grownBy (w.drewN q) row:=⟨rfl,rfl,rfl,Nat.le_refl _,fun _ _ _=>rfl⟩
theorem gcell {w w':World} {g:Nat} (h:w.grownBy w' (some g)):(∀ b o,b<w.heap.size→b≠g→w'.cell? ⟨b,o,none⟩=w.cell? ⟨b,o,none⟩)∧(∀ b o,b<w.heap.size→b≠g→w'.frozen? ⟨b,o,none⟩=w.frozen? ⟨b,o,none⟩) :=
 ⟨fun b o hb hne=>World.cell?_of_block (a:=⟨b,o,none⟩) (h.block b hb (by intro e;injection e;exact hne (by assumption))),fun b o hb hne=>World.frozen?_of_block (a:=⟨b,o,none⟩) (h.block b hb (by intro e;injection e;exact hne (by assumption)))⟩
theorem reads_one {W:World} (u:Value) (t:TypeId):Reads (W.alloc (.cells #[u] t)) (W.heap.size+1) 1 (some ⟨W.heap.size,0,none⟩) 1 [u]:=by
 refine ⟨rfl,fun _=>⟨_,rfl,by simp,fun j v hj=>?_⟩⟩
 have hj0:j=0:=by
  rcases Nat.eq_zero_or_pos j with h|h
  ·exact h
  ·rw [List.getElem?_eq_none (by simp;omega)] at hj;cases hj
 subst hj0
 rw [show ((⟨W.heap.size,0,none⟩:Addr).add 0)=⟨W.heap.size,0,none⟩ from rfl,World.cell?_alloc_mark]
 simpa using hj
theorem blk_cells {w:World} {g:Nat} {t:TypeId} {cs:Array Value} (h:w.heap[g]?=some (.cells cs t (0,0))) (i:Nat):w.cell? ⟨g,i,none⟩=cs[i]?∧w.frozen? ⟨g,i,none⟩=false :=
 ⟨cell_of_row w g i cs t (0,0) h,frozen_of_row w g i cs t h⟩
theorem blk_lt {w:World} {g:Nat} {o:Obj} (h:w.heap[g]?=some o):g<w.heap.size:=(Array.getElem?_eq_some_iff.1 h).1
theorem blk_set {w:World} {g:Nat} {t:TypeId} {cs:Array Value} (h:w.heap[g]?=some (.cells cs t (0,0))) (i:Nat) (u:Value):(w.setCell ⟨g,i,none⟩ u).heap[g]?=some (.cells (cs.setIfInBounds i u) t (0,0)) :=
 heap_setCell_same w g i cs t u h
theorem blk_new (W:World) (o:Obj):(W.alloc o).heap[W.heap.size]?=some o:=heap_alloc_new W o
theorem box_first (w:World) (o o2:Obj):((w.alloc o).alloc o2).heap[w.heap.size]?=some o:=(Below.heap_alloc _ _ _ (by simp)).trans (blk_new w o)
theorem box_second (w:World) (o o2:Obj):((w.alloc o).alloc o2).heap[w.heap.size+1]?=some o2:=by
 have h:=blk_new (w.alloc o) o2
 simpa using h
theorem blk_alloc {g:Nat} {w:World} {o:Obj} (h:w.heap[g]?=some o) (o':Obj):(w.alloc o').heap[g]?=some o:=(Below.heap_alloc _ _ _ (blk_lt h)).trans h
theorem blk_drew {g:Nat} {w:World} {o:Obj} (h:w.heap[g]?=some o):w.drew.heap[g]?=some o:=h
theorem blk_below {B g:Nat} {w w':World} {o:Obj} (h:w.heap[g]?=some o) (hb:Below B w w') (hg:g<B):w'.heap[g]?=some o:=(hb.block g hg).trans h
section
variable {P:Program} (w:World)
theorem wpList_append_N {ops:Array Oper} {rest:List Oper} {o:Oper} {a:Act} {Q:Exit→Act→World→Prop} (hgd:o.guard=none) (s x:Operand) (t:TypeId)
  (ho:o.op=.call { callee:=.builtin .append,args:=#[s,x],argTypes:=#[t,t] })
  (base:Nat) (e:TypeId) (i:TypeInfo) (z:Value) (size bytes:Nat) (ht:P.underlying t=some (.slice e)) (hi:P.info? e=some i) (hz:i.zero=some z)
  (hsize:i.size=size) (hby:i.bytes=bytes) (hzs:z.cells.size=size) (hsz:0<size)
  (v:Value) (n:Nat) (xs:List Value) (hs:a.eval s=v) (hown:w.ownsRow base e size v n xs)
  (B:Nat) (A:Option Addr) (m c:Nat) (news:List Value) (hx:a.eval x=.slice A m c) (hr:Reads w B size A m news) (h1:∀ u∈news,u.oneCell'=true)
  (h63:n+m≤maxLen) (hbytes:(n+m) * bytes≤140737488355328) (hbase:base≤w.heap.size)
  (N:Nat) (ys:List Value) (hN:n+m=N) (hys:xs++news=ys) (h:∀ A' c' w',w'.ownsRow base e size (.slice A' N c') N ys→Below base w w'→wpList P ops Q rest (a.put o.dst (.slice A' N c')) w'):wpList P ops Q (o :: rest) a w:=by
 refine wpList_append_any w hgd s x t ho base e i z size bytes ht hi hz hsize hby hzs hsz v n xs hs hown B A m c news hx hr h1 h63 hbytes hbase ?_
 subst hN;subst hys
 intro v' w' h2 h3 h4
 obtain ⟨A',c',rfl⟩:=own_slice h2
 exact h A' c' w' h2 (grown_below h3 (fun k hk=>(hown.lt k hk).1) hbase)
end
end Go.Proofs.YtlimlolciekimaaGreatDoor
