/- Contracts of the program's and the reference's functions (Draw1, Draw1b, Draw2, Draw3, LawDraw). -/
import Derived.BigQuiet
import Derived.Deep.QuietTactic
import Derived.Deep.RegionLaw
import Derived.Laws.BitsLemmas
import Derived.Test.YtlimlolciekimaaGreatDoorRows
import Derived.Test.YtlimlolciekimaaGreatDoorQUb
namespace Go.Proofs.YtlimlolciekimaaGreatDoor
set_option maxHeartbeats 1600000
open Go.ChangeShapes Go.WideShapes Go.ChangeAt Go.RowKit
set_option linter.unusedVariables false
set_option maxRecDepth 10000
theorem i64_and255 (n:Int):bits .and .i64 n 255=n % 256:=by
 have h:(BitVec.ofInt 64 255).toNat=2 ^ 8 - 1:=by decide
 have key:(BitVec.ofInt 64 n &&& BitVec.ofInt 64 255).toNat=(n % ((2 ^ 64:Nat):Int)).toNat % 2 ^ 8:=by
  rw [BitVec.toNat_and,BitVec.toNat_ofInt,h,Nat.and_two_pow_sub_one_eq_mod]
 show IntKind.i64.wrap ((BitVec.ofInt 64 n &&& BitVec.ofInt 64 255).toNat:Nat)=n % 256
 rw [key,IntKind.wrap_i64]
 omega
theorem and255_bd (n:Int):0≤bits .and .i64 n 255∧bits .and .i64 n 255≤255:=by rw [i64_and255];omega
structure Code (w:World) (B:Nat) (A:Option Addr) (bs:List Int):Prop where
 rd:Reads w B 1 A bs.length (bs.map (Value.int .u8))
 nb:bs.length≤1048576
 bd:∀ x∈bs,0≤x∧x≤255
theorem Code.below {w w':World} {B:Nat} {A:Option Addr} {bs:List Int} (h:Code w B A bs) (hb:Below B w w'):Code w' B A bs:=⟨h.rd.below hb,h.nb,h.bd⟩
theorem Code.at_ {w:World} {B k:Nat} {A:Option Addr} {bs:List Int} (h:Code w B A bs) (hk:k<bs.length):∃ ad,A=some ad∧ad.block<B∧w.cell? (ad.add k)=some (.int .u8 bs[k])∧0≤bs[k]∧bs[k]≤255:=by
 obtain ⟨ad,u,rfl,hb,hx,hc⟩:=h.rd.at_ hk
 refine ⟨ad,rfl,hb,?_,(h.bd _ (List.getElem_mem hk)).1,(h.bd _ (List.getElem_mem hk)).2⟩
 rw [List.getElem?_map,List.getElem?_eq_getElem hk] at hx
 rw [hc,← hx];rfl
structure Cur (w:World) (g B:Nat) (A:Option Addr) (c:Nat) (bs:List Int):Prop where
 code:Code w B A bs
 lo:B≤g
 blk:∃ i h:Int,0≤i∧i≤bs.length∧w.heap[g]?=some (.cells #[.slice A bs.length c,.int .i64 i,.int .i64 h] 115 (0,0))
theorem cur_notin:115∉rowTys:=by decide
section
variable {w w':World} {g B:Nat} {A:Option Addr} {c:Nat} {bs:List Int}
theorem Cur.lt (h:Cur w g B A c bs):g<w.heap.size:=by
 obtain ⟨i,q,_,_,hk⟩:=h.blk
 exact blk_lt hk
theorem Cur.below (h:Cur w g B A c bs) (hb:Below w.heap.size w w'):Cur w' g B A c bs:=by
 obtain ⟨i,q,h0,h1,hk⟩:=h.blk
 have hl:=h.lo
 have hg:=blk_lt hk
 exact ⟨h.code.below (hb.mono (by omega)),h.lo,i,q,h0,h1,blk_next hk hb⟩
theorem Cur.alloc (h:Cur w g B A c bs) (o:Obj):Cur (w.alloc o) g B A c bs:=h.below ((Below.refl _ _).alloc (Nat.le_refl _) o)
theorem Cur.drew (h:Cur w g B A c bs):Cur w.drew g B A c bs:=⟨⟨h.code.rd.drew,h.code.nb,h.code.bd⟩,h.lo,h.blk⟩
theorem Cur.drewN (h:Cur w g B A c bs) (k:Nat):Cur (w.drewN k) g B A c bs:=⟨⟨h.code.rd.drewN k,h.code.nb,h.code.bd⟩,h.lo,h.blk⟩
end
open Go.ChangeShapes Go.WideShapes Go.ChangeAt Go.RowKit
set_option linter.unusedVariables false
set_option maxRecDepth 10000
theorem cur_of {w w':World} {g B:Nat} {A:Option Addr} {c:Nat} {bs:List Int} {i h:Int} (hC:Cur w g B A c bs) (hg:w.grownBy w' (some g)) (h0:0≤i) (h1:i≤bs.length) (hk:w'.heap[g]?=some (.cells #[.slice A bs.length c,.int .i64 i,.int .i64 h] 115 (0,0))):Cur w' g B A c bs :=
 ⟨⟨hC.code.rd.grown hg (Nat.le_trans hC.lo (Nat.le_of_lt hC.lt)) (fun g' hg'=>by injection hg' with hg';subst hg';exact hC.lo),hC.code.nb,hC.code.bd⟩,hC.lo,i,h,h0,h1,hk⟩
def Drawn (n:Int) (g B:Nat) (A:Option Addr) (c:Nat) (bs:List Int) (w:World) (e:Ending) (w':World):Prop :=
 ∃ x:Int,e=.returned (.int .i64 x)∧0≤x∧x<n∧Cur w' g B A c bs∧w.grownBy w' (some g)
theorem drawn_only (w:World) (g m:Nat) (v:Value):w.grownBy ((w.drewN m).setCell ⟨g,1,none⟩ v) (some g) :=
 only_setCell (p:=⟨g,1,none⟩) (⟨rfl,rfl,rfl,Nat.le_refl _,fun _ _ _=>rfl⟩:w.grownBy (w.drewN m) (some g)) (.inl rfl) _
theorem drawn_put {w:World} {g B:Nat} {A:Option Addr} {c:Nat} {bs:List Int} {i h:Int} (hC:Cur w g B A c bs) (hk:w.heap[g]?=some (.cells #[.slice A bs.length c,.int .i64 i,.int .i64 h] 115 (0,0))) (j:Int) (m:Nat) (h0:0≤j) (h1:j≤bs.length) :
  Cur ((w.drewN m).setCell ⟨g,1,none⟩ (.int .i64 j)) g B A c bs :=
 cur_of hC (drawn_only w g m _) h0 h1 (by simpa using blk_set (show (w.drewN m).heap[g]?=_ from hk) 1 (.int .i64 j))
theorem s_l01Byte (g B:Nat) (A:Option Addr) (c:Nat) (bs:List Int) (w:World) (hC:Cur w g B A c bs):Calls Tryz.prog 81 #[.pointer (some ⟨g,0,none⟩)] w (Drawn 256 g B A c bs w):=by
 have hnb:=hC.code.nb
 obtain ⟨i,h,h0,h1,hk⟩:=hC.blk
 obtain ⟨n,rfl⟩:∃ n:Nat,i=n:=⟨i.toNat,by omega⟩
 obtain ⟨hx0,hx1,hx2,hxl⟩:=blk3 hk
 have hf2:=(blk_cells hk 2).2
 by_cases hlt:n<bs.length
 ·obtain ⟨ad,rfl,hab,hcd,hb0,hb1⟩:=hC.code.at_ hlt
  go_enter Tryz.func81,Tryz.ntmps81
  go_wp2
  obtain ⟨H,hH⟩:∃ H,H=wrap64 (wrap64 (h * 6364136223846793005)+1442695040888963407):=⟨_,rfl⟩
  rw [← hH]
  clear hH hx0 hx1 hx2 hf2
  have hg1:w.grownBy (w.setCell ⟨g,2,none⟩ (.int .i64 H)) (some g):=only_setCell (World.grownBy.refl _ _) (.inl rfl) _
  have hk1:(w.setCell ⟨g,2,none⟩ (.int .i64 H)).heap[g]?=some (.cells #[.slice (some ad) bs.length c,.int .i64 n,.int .i64 H] 115 (0,0)):=by simpa using blk_set hk 2 (.int .i64 H)
  have hC1:=cur_of hC hg1 h0 h1 hk1
  clear hC hk
  generalize w.setCell ⟨g,2,none⟩ (.int .i64 H)=w1 at *
  obtain ⟨ad2,hq2,hab2,hcd2,_,_⟩:=hC1.code.at_ hlt
  injection hq2 with hq2
  subst hq2
  obtain ⟨hx0,hx1,hx2,hxl1⟩:=blk3 hk1
  have hf1:=(blk_cells hk1 1).2
  go_quiet (fail)
  go_wp2
  go_quiet (fail)
  go_wp2
  go_quiet (fail)
  go_wp2
  go_ret
  exact ⟨_,rfl,(and255_bd _).1,Int.lt_of_le_of_lt (and255_bd _).2 (by decide),drawn_put hC1 hk1 (n+1) _ (by omega) (by omega),only_trans hg1 (drawn_only _ _ _ _)⟩
 ·have hne:n=bs.length:=by omega
  subst hne
  go_enter Tryz.func81,Tryz.ntmps81
  go_wp2
  obtain ⟨H,hH⟩:∃ H,H=wrap64 (wrap64 (h * 6364136223846793005)+1442695040888963407):=⟨_,rfl⟩
  rw [← hH]
  clear hH hx0 hx1 hx2 hf2
  have hg1:w.grownBy (w.setCell ⟨g,2,none⟩ (.int .i64 H)) (some g):=only_setCell (World.grownBy.refl _ _) (.inl rfl) _
  have hk1:(w.setCell ⟨g,2,none⟩ (.int .i64 H)).heap[g]?=some (.cells #[.slice A bs.length c,.int .i64 bs.length,.int .i64 H] 115 (0,0)):=by simpa using blk_set hk 2 (.int .i64 H)
  have hC1:=cur_of hC hg1 h0 h1 hk1
  clear hC hk
  generalize w.setCell ⟨g,2,none⟩ (.int .i64 H)=w1 at *
  obtain ⟨hx0,hx1,hx2,hxl1⟩:=blk3 hk1
  go_quiet (fail)
  go_wp2
  go_quiet (fail)
  go_wp2
  go_ret
  exact ⟨_,rfl,(and255_bd _).1,Int.lt_of_le_of_lt (and255_bd _).2 (by decide),(hC1.drewN _).drewN _,⟨hg1.os,hg1.tape,hg1.output,hg1.size,hg1.block⟩⟩
theorem s_l01Below (n:Int) (g B:Nat) (A:Option Addr) (c:Nat) (bs:List Int) (w:World) (hC:Cur w g B A c bs) (h0:1≤n) (h1:n≤256):Calls Tryz.prog 39 #[.pointer (some ⟨g,0,none⟩),.int .i64 n] w (Drawn n g B A c bs w):=by
 go_enter Tryz.func39,Tryz.ntmps39
 go_wp2_with fail
 refine (s_l01Byte g B A c bs w hC).mono ?_
 rintro e w1 ⟨x,rfl,hx0,hx1,hC1,hg1⟩
 have hnz:¬n=0:=by omega
 go_wp2
 go_ret
 exact ⟨_,rfl,Int.emod_nonneg _ (by omega),Int.emod_lt_of_pos _ (by omega),hC1,hg1⟩
set_option maxRecDepth 100000 in
theorem s_l01New (B:Nat) (A:Option Addr) (c:Nat) (bs:List Int) (w:World) (hK:Code w B A bs) (hB:B≤w.heap.size) :
  Calls Tryz.prog 36 #[.slice A bs.length c] w fun e w'=>e=.returned (.pointer (some ⟨w.heap.size,0,none⟩))∧Cur w' w.heap.size B A c bs∧Below w.heap.size w w':=by
 have hnb:=hK.nb
 obtain ⟨n,hn⟩:∃ n,bs.length=n:=⟨_,rfl⟩
 have HN:=Lib.hid hn
 rw [hn] at hnb ⊢
 clear hn
 go_enter Tryz.func36,Tryz.ntmps36
 go_wp2
 go_loopw [3,4] (fun h i wr=>∃ (j m:Nat) (H:Int),j≤n∧i=.int .i64 j∧h=.int .i64 H∧wr=w.drewN m) (fun _ i _=>n - (intOf i).toNat)
 case atStart=>exact ⟨0,0,_,Nat.zero_le _,rfl,rfl,rfl⟩
 case round =>
  obtain ⟨j,m,H,hj,rfl,rfl,rfl⟩:=hrel
  by_cases hlt:j<n
  ·by_cases h4:j<4000
   ·obtain ⟨ad,rfl,hab,hcd,hb0,hb1⟩:=hK.at_ (k:=j) (by have:=HN.out;omega)
    go_wp2
    go_roundw
    case rel=>exact ⟨j+1,_,_,by omega,by go_num,rfl,rfl⟩
    case measure=>simp [intOf];omega
   ·go_wp2
    go_ret
    have hn:=HN.out
    subst hn
    refine ⟨rfl,⟨⟨hK.rd.alloc hB _,hK.nb,hK.bd⟩,hB,0,H,by omega,by omega,?_⟩,bel⟩
    exact blk_new _ _
  ·go_wp2
   go_ret
   have hn:=HN.out
   subst hn
   refine ⟨rfl,⟨⟨hK.rd.alloc hB _,hK.nb,hK.bd⟩,hB,0,H,by omega,by omega,?_⟩,bel⟩
   exact blk_new _ _
theorem s_l01Once (n:Int) (g B:Nat) (A:Option Addr) (c:Nat) (bs:List Int) (w:World) (hC:Cur w g B A c bs) (h0:1≤n) (h1:n≤256):Calls Tryz.prog 78 #[.pointer (some ⟨g,0,none⟩),.int .i64 n] w fun e w'=>∃ b:Bool,e=.returned (.bool b)∧Cur w' g B A c bs∧w.grownBy w' (some g):=by
 go_enter Tryz.func78,Tryz.ntmps78
 go_wp2_with fail
 refine (s_l01Below n g B A c bs w hC h0 h1).mono ?_
 rintro e w1 ⟨x,rfl,hx0,hx1,hC1,hg1⟩
 go_wp2
 go_ret
 exact ⟨_,rfl,hC1,hg1⟩
def Drew (d f:Nat) (s:ByteArray):Prop:=cnt 100 s.data.toList=d∧cnt 102 s.data.toList=f∧s.size=d+f
theorem cnt_app (c:UInt8) (a b:List UInt8):cnt c (a++b)=cnt c a+cnt c b:=by unfold cnt;exact List.count_append
theorem Drew.zero:Drew 0 0 ⟨#[]⟩:=⟨rfl,rfl,rfl⟩
theorem Drew.d {d f d':Nat} {s:ByteArray} (h:Drew d f s) (hd:d'=d+1):Drew d' f (s++⟨#[100]⟩):=by
 subst hd
 obtain ⟨h1,h2,h3⟩:=h
 refine ⟨?_,?_,?_⟩
 ·rw [ByteArray.data_append,Array.toList_append,cnt_app,h1];rfl
 ·rw [ByteArray.data_append,Array.toList_append,cnt_app,h2];rfl
 ·rw [ByteArray.size_append,size_one];omega
theorem Drew.f {d f f':Nat} {s:ByteArray} (h:Drew d f s) (hf:f'=f+1):Drew d f' (s++⟨#[102]⟩):=by
 subst hf
 obtain ⟨h1,h2,h3⟩:=h
 refine ⟨?_,?_,?_⟩
 ·rw [ByteArray.data_append,Array.toList_append,cnt_app,h1];rfl
 ·rw [ByteArray.data_append,Array.toList_append,cnt_app,h2];rfl
 ·rw [ByteArray.size_append,size_one];omega
theorem Drew.app {d f d' f':Nat} {s t:ByteArray} (h:Drew d f s) (k:Drew d' f' t):Drew (d+d') (f+f') (s++t):=by
 obtain ⟨h1,h2,h3⟩:=h
 obtain ⟨k1,k2,k3⟩:=k
 refine ⟨?_,?_,?_⟩
 ·rw [ByteArray.data_append,Array.toList_append,cnt_app,h1,k1]
 ·rw [ByteArray.data_append,Array.toList_append,cnt_app,h2,k2]
 ·rw [ByteArray.size_append,h3,k3];omega
theorem drew_strip {d f:Nat} {s:ByteArray} (h:Drew d f s) (h1:1≤d) (h2:d≤8) (h3:1≤f) (h4:f≤8):isStrip s.data.toList=true:=by
 obtain ⟨k1,k2,k3⟩:=h
 unfold isStrip
 have hl:s.data.toList.length=d+f:=k3
 rw [k1,k2,hl]
 simp [inB]
 omega
theorem drew_rep (x:UInt8) (n:Nat):cnt x (List.replicate n x)=n:=by unfold cnt;simp
theorem Drew.flat (d f:Nat):Drew d f (⟨(List.replicate d 100).toArray⟩++⟨(List.replicate f 102).toArray⟩):=by
 have h1:Drew d 0 ⟨(List.replicate d 100).toArray⟩:=⟨by show cnt 100 (List.replicate d 100)=d;exact drew_rep _ _,by show cnt 102 (List.replicate d 100)=0;unfold cnt;rw [List.count_replicate];simp,by show (List.replicate d (100:UInt8)).toArray.size=d;simp⟩
 have h2:Drew 0 f ⟨(List.replicate f 102).toArray⟩:=⟨by show cnt 100 (List.replicate f 102)=0;unfold cnt;rw [List.count_replicate];simp,by show cnt 102 (List.replicate f 102)=f;exact drew_rep _ _,by show (List.replicate f (102:UInt8)).toArray.size=0+f;simp⟩
 have h:=h1.app h2
 simpa using h
theorem s_l02Draw (d f:Nat) (g B:Nat) (A:Option Addr) (c:Nat) (bs:List Int) (w:World) (hC:Cur w g B A c bs) (hd:d≤8) (hf:f≤8) :
  Calls Tryz.prog 232 #[.pointer (some ⟨g,0,none⟩),.int .i64 d,.int .i64 f] w fun e w'=>∃ s,e=.returned (.string s)∧Drew d f s∧Cur w' g B A c bs∧w.grownBy w' (some g):=by
 go_enter Tryz.func232,Tryz.ntmps232
 go_wp2
 go_loopw [1,2,7] (fun dn fn sn wr=>∃ (a b:Nat) (s:ByteArray),a≤d∧b≤f∧dn=.int .i64 a∧fn=.int .i64 b∧sn=.string s∧Hid (Drew (d - a) (f - b) s)∧Cur wr g B A c bs∧w.grownBy wr (some g)) (fun dn fn _ _=>(intOf dn).toNat+(intOf fn).toNat)
 case atStart=>exact ⟨d,f,_,Nat.le_refl _,Nat.le_refl _,rfl,rfl,rfl,by unfold Hid;simp only [Nat.sub_self];exact Drew.zero,hC,World.grownBy.refl _ _⟩
 case round =>
  obtain ⟨a,b,s,ha,hb,rfl,rfl,rfl,HD,hCr,hg⟩:=hrel
  have hsz:s.size≤16:=by have:=HD.out.2.2;omega
  have hov:¬9223372036854775807<s.size+1:=by omega
  by_cases h0:0<a+b
  ·go_wp2_with fail
   refine (s_l01Below _ g B A c bs wr hCr (by omega) (by omega)).mono ?_
   rintro e w1 ⟨x,rfl,hx0,hx1,hC1,hg1⟩
   by_cases hx:x<a
   ·go_wp2
    go_roundw
    case rel=>exact ⟨a - 1,b,_,by omega,hb,by congr 1;omega,rfl,rfl,by unfold Hid;exact Drew.d HD.out (by omega),hC1,only_trans hg hg1⟩
    case measure=>simp [intOf];omega
   ·go_wp2
    go_roundw
    case rel=>exact ⟨a,b - 1,_,ha,by omega,rfl,by congr 1;omega,rfl,by unfold Hid;exact Drew.f HD.out (by omega),hC1,only_trans hg hg1⟩
    case measure=>simp [intOf];omega
  ·have ha0:a=0:=by omega
   have hb0:b=0:=by omega
   subst ha0
   subst hb0
   go_wp2
   go_ret
   exact ⟨s,rfl,HD.out,hCr,hg⟩
theorem s_l02Many (x:UInt8) (n:Nat) (w:World) (hn:n≤8) :
  Calls Tryz.prog 264 #[.string ⟨#[x]⟩,.int .i64 n] w fun e w'=>e=.returned (.string ⟨(List.replicate n x).toArray⟩)∧w'=w:=by
 go_enter Tryz.func264,Tryz.ntmps264
 go_wp2
 go_loopw [5,6] (fun sn i wr=>∃ j:Nat,j≤n∧i=.int .i64 j∧sn=.string ⟨(List.replicate j x).toArray⟩∧wr=w) (fun _ i _=>n - (intOf i).toNat)
 case atStart=>exact ⟨0,Nat.zero_le _,rfl,rfl,rfl⟩
 case round =>
  obtain ⟨j,hj,rfl,rfl,rfl⟩:=hrel
  by_cases hlt:j<n
  ·have hov:¬9223372036854775807<(⟨(List.replicate j x).toArray⟩:ByteArray).size+1:=by show ¬_<(List.replicate j x).toArray.size+1;simp;omega
   go_wp2
   go_roundw
   case rel=>exact ⟨j+1,by omega,by go_num,by congr 1;apply ba_ext;simp [ByteArray.data_append,List.replicate_succ'],by trivial⟩
   case measure=>simp [intOf];omega
  ·have hjn:j=n:=by omega
   subst hjn
   go_wp2
   go_ret
   exact ⟨rfl,rfl⟩
theorem s_FlatStrip (d f:Nat) (w:World) (h1:1≤d) (h2:d≤8) (h3:1≤f) (h4:f≤8) :
  Calls Tryz.prog 233 #[.int .i64 d,.int .i64 f] w fun e w'=>∃ s,e=.returned (.string s)∧Drew d f s∧w'=w:=by
 have hsz:¬9223372036854775807<(⟨(List.replicate d 100).toArray⟩:ByteArray).size+(⟨(List.replicate f 102).toArray⟩:ByteArray).size:=by
  show ¬_<(List.replicate d (100:UInt8)).toArray.size+(List.replicate f (102:UInt8)).toArray.size;simp;omega
 have hfl:=Drew.flat d f
 simp only [List.toArray_replicate] at hfl
 have hs1:isStepsB (d:Int)=true:=by simp [isStepsB,inB];omega
 have hs2:isStepsB (f:Int)=true:=by simp [isStepsB,inB];omega
 have HFL:=hide hfl
 clear hfl
 go_enter Tryz.func233,Tryz.ntmps233
 go_wp2_with (first|(go_at_call 150;refine (s_l02Frame _ _ _).mono ?_;rintro e w' ⟨rfl,rfl⟩)|(go_at_call_of 264 (Value.string ⟨#[100]⟩);refine (s_l02Many 100 d _ h2).mono ?_;rintro e w' ⟨rfl,rfl⟩)|(go_at_call_of 264 (Value.string ⟨#[102]⟩);refine (s_l02Many 102 f _ h4).mono ?_;rintro e w' ⟨rfl,rfl⟩))
 go_ret
 exact ⟨_,rfl,unhide HFL,rfl⟩
theorem one_strD (s:ByteArray):∀ u∈[Value.string s],u.oneCell'=true:=by intro u hu;simp at hu;subst hu;rfl
theorem snocD (ss:List ByteArray) (s:ByteArray):ss.map Value.string++[Value.string s]=(ss++[s]).map Value.string:=by simp
theorem all_snocD {d f:Nat} {ss:List ByteArray} {s:ByteArray} (h:∀ x∈ss,Drew d f x) (k:Drew d f s):∀ x∈ss++[s],Drew d f x:=by
 intro x hx
 rcases List.mem_append.1 hx with h1|h1
 ·exact h x h1
 ·rw [List.mem_singleton.1 h1];exact k
theorem grown_then {w a b:World} {row:Option Nat} (h:w.grownBy a row) (k:Below w.heap.size a b):w.grownBy b row :=
 ⟨k.os.trans h.os,k.tape.trans h.tape,k.output.trans h.output,Nat.le_trans h.size k.size,fun i hi hne=>(k.block i hi).trans (h.block i hi hne)⟩
section
variable {w w':World} {g B:Nat} {A:Option Addr} {c:Nat} {bs:List Int}
theorem Cur.below2 {b:Nat} (h:Cur w g B A c bs) (hb:Below b w w') (hg:g<b):Cur w' g B A c bs:=by
 obtain ⟨i,q,h0,h1,hk⟩:=h.blk
 have hl:=h.lo
 exact ⟨h.code.below (hb.mono (by omega)),h.lo,i,q,h0,h1,blk_below hk hb hg⟩
theorem Cur.put_other {p:Addr} (h:Cur w g B A c bs) (h1:g≠p.block) (h2:B≤p.block) (u:Value):Cur (w.setCell p u) g B A c bs:=by
 obtain ⟨i,q,k0,k1,hk⟩:=h.blk
 exact ⟨⟨h.code.rd.setCell h2 u,h.code.nb,h.code.bd⟩,h.lo,i,q,k0,k1,blk_other hk h1 u⟩
theorem Cur.own {base size n:Nat} {e:TypeId} {v:Value} {xs:List Value} (h:Cur w g B A c bs) (ho:w.ownsRow base e size v n xs) (he:e∈rowTys) (hg:w.grownBy w' (some g)):w'.ownsRow base e size v n xs:=by
 obtain ⟨i,q,k0,k1,hk⟩:=h.blk
 exact own_box ho he hk cur_notin hg
theorem Cur.blk_keep {b:Nat} {o:Obj} (h:Cur w g B A c bs) (hk:w.heap[b]?=some o) (hne:b≠g) (hg:w.grownBy w' (some g)):w'.heap[b]?=some o :=
 (hg.block b (blk_lt hk) (fun e=>hne (by injection e))).trans hk
end
def DrawnCard (g B:Nat) (A:Option Addr) (c:Nat) (bs:List Int) (w:World) (e:Ending) (w':World):Prop :=
 ∃ (d f:Nat) (ss:List ByteArray) (A':Option Addr) (c':Nat),(1≤d∧d≤4∧1≤f∧f≤4∧1≤ss.length∧ss.length≤6)∧(∀ x∈ss,Drew d f x)∧e=.returned (.agg #[.int .i64 d,.int .i64 f,.slice A' ss.length c'])∧OwnS w' w.heap.size w'.heap.size A' c' ss∧Cur w' g B A c bs∧w.grownBy w' (some g)
set_option maxHeartbeats 6400000 in
theorem s_l05Card (g B:Nat) (A:Option Addr) (c:Nat) (bs:List Int) (w:World) (hC:Cur w g B A c bs) :
  Calls Tryz.prog 182 #[.pointer (some ⟨g,0,none⟩)] w (DrawnCard g B A c bs w):=by
 have hgw:=hC.lt
 have hlo:=hC.lo
 obtain ⟨i0,hi0,hi1,hi2,hi3⟩:=info_parts info_str
 go_enter Tryz.func182,Tryz.ntmps182
 go_wp2_with fail
 have hkr0:=blk_new w (.cells #[.int .i64 0,.int .i64 0,.slice none 0 0] 26)
 have hC0:=hC.alloc (.cells #[.int .i64 0,.int .i64 0,.slice none 0 0] 26)
 have hg0:w.grownBy (w.alloc (.cells #[.int .i64 0,.int .i64 0,.slice none 0 0] 26)) (some g):=grown_then (World.grownBy.refl w _) bel
 have hs0:(w.alloc (.cells #[.int .i64 0,.int .i64 0,.slice none 0 0] 26)).heap.size=w.heap.size+1:=by simp
 generalize w.alloc (.cells #[.int .i64 0,.int .i64 0,.slice none 0 0] 26)=w0 at *
 refine (s_l01Below 4 g B A c bs w0 hC0 (by omega) (by omega)).mono ?_
 rintro e w1 ⟨x1,rfl,hx1,hx1',hC1,hg1⟩
 have hkr1:=hC0.blk_keep hkr0 (by omega) hg1
 have hgr1:=only_trans hg0 hg1
 have hs1:=hg1.size
 go_wp2_with fail
 refine (s_l01Below 4 g B A c bs w1 hC1 (by omega) (by omega)).mono ?_
 rintro e w2 ⟨x2,rfl,hx2,hx2',hC2,hg2⟩
 have hkr2:=hC1.blk_keep hkr1 (by omega) hg2
 have hgr2:=only_trans hgr1 hg2
 have hs2:=hg2.size
 obtain ⟨d,hd⟩:∃ d:Nat,(d:Int)=1+x1:=⟨(1+x1).toNat,by omega⟩
 obtain ⟨f,hf⟩:∃ f:Nat,(f:Int)=1+x2:=⟨(1+x2).toNat,by omega⟩
 have hd4:1≤d∧d≤4:=by omega
 have hf4:1≤f∧f≤4:=by omega
 clear hC hC0 hC1 hg1 hg2 hg0 hgr1 hkr0 hkr1
 go_wp2_with fail
 rw [← hd,← hf]
 clear hd hf hx1 hx1' hx2 hx2'
 have hko3:=blk_new w2 (.cells #[.int .i64 d,.int .i64 f,.slice none 0 0] 26)
 have hkr3:=blk_alloc hkr2 (.cells #[.int .i64 d,.int .i64 f,.slice none 0 0] 26)
 have hC3:=hC2.alloc (.cells #[.int .i64 d,.int .i64 f,.slice none 0 0] 26)
 have hg3:w.grownBy (w2.alloc (.cells #[.int .i64 d,.int .i64 f,.slice none 0 0] 26)) (some g):=grown_then hgr2 bel
 have hs3:(w2.alloc (.cells #[.int .i64 d,.int .i64 f,.slice none 0 0] 26)).heap.size=w2.heap.size+1:=by simp
 generalize w2.alloc (.cells #[.int .i64 d,.int .i64 f,.slice none 0 0] 26)=w3 at *
 refine (s_l01Below 6 g B A c bs w3 hC3 (by omega) (by omega)).mono ?_
 rintro e w4 ⟨x3,rfl,hx3,hx3',hC4,hg4⟩
 have hko4:=hC3.blk_keep hko3 (by have:=hC2.lt;omega) hg4
 have hkr4:=hC3.blk_keep hkr3 (by omega) hg4
 have hgr4:=only_trans hg3 hg4
 have hs4:=hg4.size
 obtain ⟨O,hO⟩:∃ O,w2.heap.size=O:=⟨_,rfl⟩
 have hgO2:=hC2.lt
 rw [hO] at hko4 hgO2
 have hwO:w.heap.size<O:=by omega
 have hO4:O<w4.heap.size:=by omega
 obtain ⟨n,hn⟩:∃ n:Nat,(n:Int)=1+x3:=⟨(1+x3).toNat,by omega⟩
 have hn6:1≤n∧n≤6:=by omega
 clear hC2 hC3 hg3 hg4 hkr2 hkr3 hko3 hgr2
 go_wp2_with fail
 rw [← hn]
 try rw [hO]
 clear hn hx3 hx3' hs0 hs1 hs2 hs3 hs4
 go_loopw [5] (fun k wr=>∃ (j:Nat) (A':Option Addr) (c':Nat) (ss:List ByteArray),j≤n∧k=.int .i64 j∧Hid (ss.length=j)∧Hid (∀ x∈ss,Drew d f x)∧wr.heap[O]?=some (.cells #[.int .i64 d,.int .i64 f,.slice A' j c'] 26 (0,0))∧wr.heap[w.heap.size]?=some (.cells #[.int .i64 0,.int .i64 0,.slice none 0 0] 26 (0,0))∧wr.ownsRow (O+1) 9 1 (.slice A' j c') j (ss.map Value.string)∧Cur wr g B A c bs∧w.grownBy wr (some g)∧O<wr.heap.size) (fun k _=>n - (intOf k).toNat)
 case atStart=>exact ⟨0,none,0,[],Nat.zero_le _,rfl,rfl,(fun x hx=>by cases hx),hko4,hkr4,World.ownsRow_nil _ _ _ _,hC4,hgr4,hO4⟩
 case round =>
  obtain ⟨j,A',c',ss,hj,rfl,HL,HSS,hko,hkr,hown,hCr,hgr,hOr⟩:=hrel
  by_cases hlt:j<n
  ·obtain ⟨hx0,hx1,hx2,hxl⟩:=blk3 hko
   go_wp2_with fail
   clear hx0 hx1 hx2 hxl
   refine (s_l02Draw d f g B A c bs wr hCr (by omega) (by omega)).mono ?_
   rintro e w3 ⟨s0,rfl,HS0,hC3,hg3⟩
   have hko3:=hCr.blk_keep hko (by omega) hg3
   have hkr3:=hCr.blk_keep hkr (by omega) hg3
   have own3:=hCr.own hown (by decide) hg3
   have hgr3:=only_trans hgr hg3
   have hO3:=Nat.lt_of_lt_of_le hOr hg3.size
   clear hko hkr hown hgr hg3 hCr hOr
   go_wp2_with fail
   refine (s_l01Below 4 g B A c bs w3 hC3 (by omega) (by omega)).mono ?_
   rintro e w4 ⟨x,rfl,hx,hx',hC4,hg4'⟩
   have hko4:=hC3.blk_keep hko3 (by omega) hg4'
   have hkr4:=hC3.blk_keep hkr3 (by omega) hg4'
   have own4:=hC3.own own3 (by decide) hg4'
   have hg4:=only_trans hgr3 hg4'
   have hO4:=Nat.lt_of_lt_of_le hO3 hg4'.size
   clear hko3 hkr3 own3 hgr3 hg4' hC3 hO3
   rcases (show x=0∨x=1∨x=2∨x=3 by omega) with rfl|rfl|rfl|rfl
   ·obtain ⟨hx0,hx1,hx2,hxl⟩:=blk3 hko4
    go_wp2_with fail
    clear hx0 hx1 hx2 hxl
    refine (s_FlatStrip d f w4 hd4.1 (by omega) hf4.1 (by omega)).mono ?_
    rintro e w' ⟨s1,rfl,HS1,hw⟩
    rw [hw]
    clear hw w'
    obtain ⟨hz0,hz1,hz2,hzl⟩:=blk3 hko4
    have hfz:=(blk_cells hko4 2).2
    have hgO:=hC4.lt
    go_wp2_with (at_builtin;refine wpList_append_N _ rfl (.tmp 48) (.tmp 50) _ rfl (O+1) 9 i0 _ 1 16 Tryz.underlying24 hi0 hi1 hi2 hi3 rfl (by omega) (.slice A' j c') j _ rfl (own4.alloc _) (w4.heap.size+1) (some ⟨w4.heap.size,0,none⟩) 1 1 [Value.string s1] rfl (reads_one _ _) (one_strD _) ?_ ?_ ?_ (j+1) _ rfl (snocD ss s1) ?_;(unfold maxLen;omega);omega;(simp;omega);intro A2 c2 w5 ho5 hb5;obtain ⟨hcb5,hfb5⟩:=bcellB hb5)
    go_roundw
    case rel =>
     have hk5:=blk_below (blk_alloc hko4 (.cells #[.string s1] 9)) hb5 (by omega)
     have hr5:=blk_below (blk_alloc hkr4 (.cells #[.string s1] 9)) hb5 (by omega)
     have hC5:=(hC4.alloc (.cells #[.string s1] 9)).below2 hb5 (by omega)
     have hE:Below w.heap.size w4 (w5.setCell ⟨O,2,none⟩ (.slice A2 (j+1) c2)):=bel
     have hs5:=hb5.size
     exact ⟨j+1,A2,c2,ss++[s1],by omega,by go_num,by unfold Hid;have:=HL.out;simp;omega,by unfold Hid;exact all_snocD HSS.out (HS1),by simpa using blk_set hk5 2 (.slice A2 (j+1) c2),blk_other hr5 (show ¬w.heap.size=O by omega) _,ownsRow_setCell_below ho5 (by simp) _,hC5.put_other (by simp;omega) (by simp;omega) _,grown_then hg4 hE,by simp [World.setCell] at hs5 ⊢;omega⟩
    case measure=>simp [intOf];omega
   ·by_cases hj0:0<j
    ·obtain ⟨ad,u,rfl,hab,hu,hcu⟩:=(Reads.of_own own4).at_ (k:=j - 1) (by omega)
     obtain ⟨s1,hs1,rfl⟩:∃ s1,s1∈ss∧u=.string s1:=by
      rw [List.getElem?_map] at hu
      obtain ⟨q,hq,hqu⟩:=Option.map_eq_some_iff.1 hu
      exact ⟨q,List.mem_of_getElem? hq,hqu.symm⟩
     obtain ⟨K,hK⟩:∃ K,j - 1=K:=⟨_,rfl⟩
     rw [hK] at hcu
     have hKj:(K:Int)<j:=by omega
     have hidx:((j:Int) - 1).toNat=K:=by omega
     have hq1:(0:Int)≤(j:Int) - 1:=by omega
     have hq2:(j:Int) - 1<(j:Int):=by omega
     clear hu hK
     obtain ⟨hz0,hz1,hz2,hzl⟩:=blk3 hko4
     have hfz:=(blk_cells hko4 2).2
     have hgO:=hC4.lt
     go_wp2_with (at_builtin;refine wpList_append_N _ rfl (.tmp 48) (.tmp 50) _ rfl (O+1) 9 i0 _ 1 16 Tryz.underlying24 hi0 hi1 hi2 hi3 rfl (by omega) (.slice (some ad) j c') j _ rfl (own4.alloc _) (w4.heap.size+1) (some ⟨w4.heap.size,0,none⟩) 1 1 [Value.string s1] rfl (reads_one _ _) (one_strD _) ?_ ?_ ?_ (j+1) _ rfl (snocD ss s1) ?_;(unfold maxLen;omega);omega;(simp;omega);intro A2 c2 w5 ho5 hb5;obtain ⟨hcb5,hfb5⟩:=bcellB hb5)
     go_roundw
     case rel =>
      have hk5:=blk_below (blk_alloc hko4 (.cells #[.string s1] 9)) hb5 (by omega)
      have hr5:=blk_below (blk_alloc hkr4 (.cells #[.string s1] 9)) hb5 (by omega)
      have hC5:=(hC4.alloc (.cells #[.string s1] 9)).below2 hb5 (by omega)
      have hE:Below w.heap.size w4 (w5.setCell ⟨O,2,none⟩ (.slice A2 (j+1) c2)):=bel
      have hs5:=hb5.size
      exact ⟨j+1,A2,c2,ss++[s1],by omega,by go_num,by unfold Hid;have:=HL.out;simp;omega,by unfold Hid;exact all_snocD HSS.out (HSS.out _ hs1),by simpa using blk_set hk5 2 (.slice A2 (j+1) c2),blk_other hr5 (show ¬w.heap.size=O by omega) _,ownsRow_setCell_below ho5 (by simp) _,hC5.put_other (by simp;omega) (by simp;omega) _,grown_then hg4 hE,by simp [World.setCell] at hs5 ⊢;omega⟩
     case measure=>simp [intOf];omega
    ·obtain ⟨hz0,hz1,hz2,hzl⟩:=blk3 hko4
     have hfz:=(blk_cells hko4 2).2
     have hgO:=hC4.lt
     go_wp2_with (at_builtin;refine wpList_append_N _ rfl (.tmp 48) (.tmp 50) _ rfl (O+1) 9 i0 _ 1 16 Tryz.underlying24 hi0 hi1 hi2 hi3 rfl (by omega) (.slice A' j c') j _ rfl (own4.alloc _) (w4.heap.size+1) (some ⟨w4.heap.size,0,none⟩) 1 1 [Value.string s0] rfl (reads_one _ _) (one_strD _) ?_ ?_ ?_ (j+1) _ rfl (snocD ss s0) ?_;(unfold maxLen;omega);omega;(simp;omega);intro A2 c2 w5 ho5 hb5;obtain ⟨hcb5,hfb5⟩:=bcellB hb5)
     go_roundw
     case rel =>
      have hk5:=blk_below (blk_alloc hko4 (.cells #[.string s0] 9)) hb5 (by omega)
      have hr5:=blk_below (blk_alloc hkr4 (.cells #[.string s0] 9)) hb5 (by omega)
      have hC5:=(hC4.alloc (.cells #[.string s0] 9)).below2 hb5 (by omega)
      have hE:Below w.heap.size w4 (w5.setCell ⟨O,2,none⟩ (.slice A2 (j+1) c2)):=bel
      have hs5:=hb5.size
      exact ⟨j+1,A2,c2,ss++[s0],by omega,by go_num,by unfold Hid;have:=HL.out;simp;omega,by unfold Hid;exact all_snocD HSS.out (HS0),by simpa using blk_set hk5 2 (.slice A2 (j+1) c2),blk_other hr5 (show ¬w.heap.size=O by omega) _,ownsRow_setCell_below ho5 (by simp) _,hC5.put_other (by simp;omega) (by simp;omega) _,grown_then hg4 hE,by simp [World.setCell] at hs5 ⊢;omega⟩
     case measure=>simp [intOf];omega
   ·obtain ⟨hz0,hz1,hz2,hzl⟩:=blk3 hko4
    have hfz:=(blk_cells hko4 2).2
    have hgO:=hC4.lt
    go_wp2_with (at_builtin;refine wpList_append_N _ rfl (.tmp 48) (.tmp 50) _ rfl (O+1) 9 i0 _ 1 16 Tryz.underlying24 hi0 hi1 hi2 hi3 rfl (by omega) (.slice A' j c') j _ rfl (own4.alloc _) (w4.heap.size+1) (some ⟨w4.heap.size,0,none⟩) 1 1 [Value.string s0] rfl (reads_one _ _) (one_strD _) ?_ ?_ ?_ (j+1) _ rfl (snocD ss s0) ?_;(unfold maxLen;omega);omega;(simp;omega);intro A2 c2 w5 ho5 hb5;obtain ⟨hcb5,hfb5⟩:=bcellB hb5)
    go_roundw
    case rel =>
     have hk5:=blk_below (blk_alloc hko4 (.cells #[.string s0] 9)) hb5 (by omega)
     have hr5:=blk_below (blk_alloc hkr4 (.cells #[.string s0] 9)) hb5 (by omega)
     have hC5:=(hC4.alloc (.cells #[.string s0] 9)).below2 hb5 (by omega)
     have hE:Below w.heap.size w4 (w5.setCell ⟨O,2,none⟩ (.slice A2 (j+1) c2)):=bel
     have hs5:=hb5.size
     exact ⟨j+1,A2,c2,ss++[s0],by omega,by go_num,by unfold Hid;have:=HL.out;simp;omega,by unfold Hid;exact all_snocD HSS.out (HS0),by simpa using blk_set hk5 2 (.slice A2 (j+1) c2),blk_other hr5 (show ¬w.heap.size=O by omega) _,ownsRow_setCell_below ho5 (by simp) _,hC5.put_other (by simp;omega) (by simp;omega) _,grown_then hg4 hE,by simp [World.setCell] at hs5 ⊢;omega⟩
    case measure=>simp [intOf];omega
   ·obtain ⟨hz0,hz1,hz2,hzl⟩:=blk3 hko4
    have hfz:=(blk_cells hko4 2).2
    have hgO:=hC4.lt
    go_wp2_with (at_builtin;refine wpList_append_N _ rfl (.tmp 48) (.tmp 50) _ rfl (O+1) 9 i0 _ 1 16 Tryz.underlying24 hi0 hi1 hi2 hi3 rfl (by omega) (.slice A' j c') j _ rfl (own4.alloc _) (w4.heap.size+1) (some ⟨w4.heap.size,0,none⟩) 1 1 [Value.string s0] rfl (reads_one _ _) (one_strD _) ?_ ?_ ?_ (j+1) _ rfl (snocD ss s0) ?_;(unfold maxLen;omega);omega;(simp;omega);intro A2 c2 w5 ho5 hb5;obtain ⟨hcb5,hfb5⟩:=bcellB hb5)
    go_roundw
    case rel =>
     have hk5:=blk_below (blk_alloc hko4 (.cells #[.string s0] 9)) hb5 (by omega)
     have hr5:=blk_below (blk_alloc hkr4 (.cells #[.string s0] 9)) hb5 (by omega)
     have hC5:=(hC4.alloc (.cells #[.string s0] 9)).below2 hb5 (by omega)
     have hE:Below w.heap.size w4 (w5.setCell ⟨O,2,none⟩ (.slice A2 (j+1) c2)):=bel
     have hs5:=hb5.size
     exact ⟨j+1,A2,c2,ss++[s0],by omega,by go_num,by unfold Hid;have:=HL.out;simp;omega,by unfold Hid;exact all_snocD HSS.out (HS0),by simpa using blk_set hk5 2 (.slice A2 (j+1) c2),blk_other hr5 (show ¬w.heap.size=O by omega) _,ownsRow_setCell_below ho5 (by simp) _,hC5.put_other (by simp;omega) (by simp;omega) _,grown_then hg4 hE,by simp [World.setCell] at hs5 ⊢;omega⟩
    case measure=>simp [intOf];omega
  ·have hjn:j=n:=by omega
   subst hjn
   obtain ⟨hx0,hx1,hx2,hxl⟩:=blk3 hko
   obtain ⟨hy0,hy1,hy2,hyl⟩:=blk3 hkr
   have hfy0:=(blk_cells hkr 0).2
   have hfy1:=(blk_cells hkr 1).2
   have hfy2:=(blk_cells hkr 2).2
   go_wp2
   refine bodyPost_ret (v:=.agg #[.int .i64 d,.int .i64 f,.slice A' j c']) (by simp [results,Tryz.results182,go_sem, *]) rfl ?_
   have hbx:=boxAt_of hkr
   have hlen:=HL.out
   subst hlen
   obtain ⟨wE,heE⟩:∃ x,x=((wr.setCell ⟨w.heap.size,0,none⟩ (.int .i64 d)).setCell ⟨w.heap.size,1,none⟩ (.int .i64 f)).setCell ⟨w.heap.size,2,none⟩ (.slice A' ss.length c'):=⟨_,rfl⟩
   have hX:Boxy wr wE:=by rw [heE];exact boxy
   have hE:Below w.heap.size wr wE:=by rw [heE];exact bel
   have hCE:Cur wE g B A c bs:=by rw [heE];exact ((hCr.put_other (by simp;omega) (by simp;omega) _).put_other (by simp;omega) (by simp;omega) _).put_other (by simp;omega) (by simp;omega) _
   have hoE:=own_boxy hown (by decide) hX
   rw [← heE]
   exact ⟨d,f,ss,A',c',by omega,HSS.out,rfl,(OwnS.of (own_base hoE (Nat.le_refl _)) (Nat.le_refl _)).wide (by omega) (Nat.le_refl _),hCE,grown_then hgr hE⟩
open Go.ChangeShapes Go.WideShapes Go.ChangeAt Go.RowKit Go.Deep
set_option linter.unusedVariables false
set_option maxRecDepth 10000
def u8Cells (x:Int):List Value:=[.int .u8 x]
theorem u8_flat (l:List Int):l.flatMap u8Cells=l.map (Value.int .u8):=by
 induction l with
 |nil=>rfl
 |cons x l ih=>rw [List.flatMap_cons,ih];rfl
theorem cells_u8R:Tryz.prog.cellsOf 5=1:=by kernel_rfl
theorem u8_wf {F:Int} (h:(Lit.int .u8 F).wf=true):0≤F∧F≤255:=by
 simp [Lit.wf,IntKind.min,IntKind.max,IntKind.signed,IntKind.bits] at h
 omega
theorem open_code {H:Type} {enc:TypeId×Value→H} {W:World} {r:Reach} {b0:Nat} {v:Value} {d:DataW H} {p:List MemPlace}
  (hv:Value.okWide Tryz.prog W r b0 22 v) (h:DataW.Trod enc Tryz.prog W 0 (fun _=>true) true 22 v d p) :
  ∃ (A:Option Addr) (c:Nat) (l:List Int),v=.slice A l.length c∧Reads W W.heap.size 1 A l.length (l.map (Value.int .u8))∧l.length≤maxLen∧∀ x∈l,0≤x∧x≤255:=by
 obtain ⟨fuel,hf⟩:=h
 obtain ⟨A,n,c,l,hcs,hR,hl,hm,hq⟩:=reads_rows (α:=Int) (f:=u8Cells) (k:=1) (Q:=fun x=>0≤x∧x≤255) (fun _=>rfl) (by omega) Tryz.underlying22 cells_u8R hf (fun n cs' y hcl ht=>by
  match cs',hcl with
  |[c0],_ =>
   obtain ⟨F,e1,_,hwf⟩:=DataW.trod_int Tryz.underlying5 ht
   simp at e1
   subst e1
   exact ⟨F,rfl,u8_wf hwf⟩)
 subst hl
 rw [u8_flat] at hR
 refine ⟨A,c,l,?_,hR,hm,hq⟩
 rcases okWide_slice Tryz.underlying22 hv with ⟨A',n',c',rfl⟩
 simpa [Value.cells] using hcs
theorem l_big (A:Option Addr) (n c:Nat) (w:World) (h:n≤9223372036854775807):Calls Tryz.prog 9 #[.slice A n c] w fun e w'=>e=.returned (.bool (decide (1048576<n)))∧w=w':=by
 go_enter Tryz.func9,Tryz.ntmps9
 go_wp2
 go_ret
 exact ⟨ret_bool (by rw [decide_eq_decide];omega),rfl⟩
def atV (bs:List Int) (i:Nat):Int:=if bs.length=0 then 0 else bs.getD ((i * 5+1) % bs.length) 0
end Go.Proofs.YtlimlolciekimaaGreatDoor
