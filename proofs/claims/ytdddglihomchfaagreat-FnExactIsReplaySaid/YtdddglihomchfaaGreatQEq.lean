/- Contracts of the program's and the reference's functions (RowInt, UWorkN, RowsA, RowAct, OwnA). -/
import Derived.Test.YtdddglihomchfaaGreatRows
import Derived.Test.YtdddglihomchfaaGreatQEo
import Derived.Test.YtdddglihomchfaaGreatQEb
import Derived.Test.YtdddglihomchfaaGreatQEm
namespace Go.Proofs.YtdddglihomchfaaGreat
set_option maxHeartbeats 1600000
open Go.ChangeShapes Go.WideShapes Go.ChangeAt Go.RowKit
set_option linter.unusedVariables false
set_option maxRecDepth 10000
theorem ints_len (l:List Int):(ints l).length=l.length:=by simp [ints]
structure OwnN (w:World) (lo hi:Nat) (A:Option Addr) (c:Nat) (l:List Int):Prop where
 row:w.ownsRow lo 3 1 (.slice A l.length c) l.length (ints l)
 top:∀ k,(Value.slice A l.length c).ownBlock=some k→k<hi
def marksN (k:Int) (n:Nat):List Value:=(List.range n).map fun i=>Value.int .i64 (k+(i:Nat))
theorem marksN_len (k:Int) (n:Nat):(marksN k n).length=n:=by simp [marksN]
theorem marksN_succ (k:Int) (n:Nat):marksN k (n+1)=marksN k n++[.int .i64 (k+n)]:=by
 simp [marksN,List.range_succ]
theorem marksN_step (k:Int) (i:Nat) (xs:List Value) (hi:i<xs.length):(marksN k i++xs.drop i).set i (.int .i64 (k+i))=marksN k (i+1)++xs.drop (i+1):=by
 rw [marksN_succ,List.set_append,if_neg (by simp [marksN_len]),marksN_len,Nat.sub_self,List.drop_eq_getElem_cons hi,List.set_cons_zero,List.append_assoc]
 rfl
structure MkN (w:World) (lo hi:Nat) (A:Option Addr) (c:Nat) (k:Int) (n:Nat):Prop where
 row:w.ownsRow lo 3 1 (.slice A n c) n (marksN k n)
 top:∀ k,(Value.slice A n c).ownBlock=some k→k<hi
section
variable {lo hi lo' hi':Nat} {w w':World} {A:Option Addr} {c n:Nat} {l:List Int} {k:Int}
theorem OwnN.within {a h:Nat} (ho:OwnN w lo hi A c l) (hW:Within a h w w') (hd:hi≤a∨h≤lo):OwnN w' lo hi A c l :=
 ⟨own_within ho.row hW (fun k hk=>by have h1:=ho.top k hk;have h2:=(ho.row.lt k hk).1;omega),ho.top⟩
theorem OwnN.below (ho:OwnN w lo hi A c l) (hb:Below w.heap.size w w'):OwnN w' lo hi A c l:=⟨own_below ho.row hb,ho.top⟩
theorem OwnN.boxy (ho:OwnN w lo hi A c l) (h:Boxy w w'):OwnN w' lo hi A c l:=⟨own_boxy ho.row (by decide) h,ho.top⟩
theorem OwnN.alloc (ho:OwnN w lo hi A c l) (o:Obj):OwnN (w.alloc o) lo hi A c l:=⟨ho.row.alloc _,ho.top⟩
theorem OwnN.of (ho:w.ownsRow lo 3 1 (.slice A l.length c) l.length (ints l)) (h:w.heap.size≤hi):OwnN w lo hi A c l:=⟨ho,fun k hk=>by have:=(ho.lt k hk).2;omega⟩
theorem OwnN.rd (ho:OwnN w lo hi A c l):Reads w w.heap.size 1 A l.length (ints l):=Reads.of_own ho.row
theorem MkN.below (h:MkN w lo hi A c k n) (hb:Below w.heap.size w w'):MkN w' lo hi A c k n:=⟨own_below h.row hb,h.top⟩
theorem MkN.alloc (h:MkN w lo hi A c k n) (o:Obj):MkN (w.alloc o) lo hi A c k n:=⟨h.row.alloc _,h.top⟩
end
def UInts (l:List Int) (w:World) (e:Ending) (w':World):Prop :=
 ∃ A c,e=.returned (.slice A l.length c)∧OwnN w' w.heap.size w'.heap.size A c l∧Below w.heap.size w w'
theorem mkN_get {k:Int} {n j:Nat} {u:Value} (hj:j<n) (h:(marksN k n)[j]?=some u):u=.int .i64 (k+j):=by
 simp [marksN,hj] at h;exact h.symm
theorem u_toIntS (l:List Int) (B:Nat) (A:Option Addr) (c:Nat) (w:World) (hR:Reads w B 1 A l.length (ints l)) (hn:l.length≤16777216) (hB:B≤w.heap.size) :
  Calls Tryz.prog 57 #[.slice A l.length c] w (UInts l w):=by
 obtain ⟨n,hln⟩:∃ n,l.length=n:=⟨_,rfl⟩
 have HL:=Lib.hid hln
 rw [hln] at hR hn ⊢
 clear hln
 obtain ⟨i0,hi0,hz0,hz1,hz2⟩:=info_parts info_int
 have hmk:=run_make_rowN (P:=Tryz.prog) 82 3 i0 _ Tryz.underlying82 hi0 hz0 .i64 .i64 n n (Nat.le_refl _) (by rw [hz2];omega) (by omega) w
 go_enter Tryz.func57,Tryz.ntmps57
 go_wp2
 go_loopw [4] (fun i wr=>∃ j:Nat,j≤n∧i=.int .i64 j∧wr.ownsRow w.heap.size 3 1 (.slice (some ⟨w.heap.size,0,none⟩) n n) n (ints (l.take j)++List.replicate (n - j) (.int .i64 0))∧Below w.heap.size w wr) (fun i _=>n - (intOf i).toNat)
 case atStart =>
  refine ⟨0,Nat.zero_le _,rfl,?_,bel⟩
  have h:=World.ownsRow_lit (w:=w) (base:=w.heap.size) (e:=3) (size:=1) (madeCells #[Value.int .i64 0] n) n (Nat.le_refl _) (by unfold maxLen;omega) (by simp [madeCells])
  rw [toList_madeCells_one] at h
  simpa [ints] using h
 case round =>
  obtain ⟨j,hj,rfl,hown,hb⟩:=hrel
  by_cases hlt:j<n
  ·obtain ⟨hk1,ad,rfl,hab,hc⟩:=ints_at hR hlt
   have hc':wr.cell? (ad.add j)=some (.int .i64 l[j]):=by rw [hb.cell (by rw [block_of_add];omega)];exact hc
   obtain ⟨u1,hc1⟩:=own_cell hown (j:=j) hlt
   have hf1:=hown.frozenAt j
   go_wp2
   go_roundw
   case rel =>
    have hst:=hown.stored j (.int .i64 l[j])
    refine ⟨j+1,by omega,by go_num,?_,only_below_B hb hst.2⟩
    have he:(ints (l.take j)++List.replicate (n - j) (Value.int .i64 0)).set j (Value.int .i64 l[j])=ints (l.take (j+1))++List.replicate (n - (j+1)) (.int .i64 0):=by
     have hlj:(ints (l.take j)).length=j:=by rw [ints_len,List.length_take];omega
     rw [List.set_append,if_neg (by rw [hlj];omega),hlj,Nat.sub_self,show n - j=(n - (j+1))+1 from by omega,List.replicate_succ,List.set_cons_zero,List.take_succ_eq_append_getElem hk1,ints_snoc,List.append_assoc]
     rfl
    rw [← he];exact hst.1
   case measure=>simp [intOf];omega
  ·have hjn:j=n:=by omega
   subst hjn
   have hE:ints (l.take j)++List.replicate (j - j) (.int .i64 0)=ints l:=by
    rw [List.take_of_length_le (by have:=HL.out;omega)];simp
   rw [hE] at hown
   clear hE
   have HO:=hide hown
   clear hown
   go_wp2
   go_ret
   have hl:=HL.out
   subst hl
   exact ⟨_,_,rfl,OwnN.of (unhide HO) (Nat.le_refl _),hb⟩
theorem l_eqIntS_same (B:Nat) (A1 A2:Option Addr) (n c1 c2:Nat) (l:List Int) (w:World) (h1:Reads w B 1 A1 n (ints l)) (h2:Reads w B 1 A2 n (ints l)) (hn:n≤16777216) :
  Calls Tryz.prog 51 #[.slice A1 n c1,.slice A2 n c2] w fun e w'=>e=.returned (.bool true)∧Below w.heap.size w w':=by
 go_enter Tryz.func51,Tryz.ntmps51
 go_wp2
 go_loopw [5] (fun i wr=>∃ j m:Nat,j≤n∧i=.int .i64 j∧wr=w.drewN m) (fun i _=>n - (intOf i).toNat)
 case atStart=>exact ⟨0,0,Nat.zero_le _,rfl,rfl⟩
 case round =>
  obtain ⟨j,m,hj,rfl,rfl⟩:=hrel
  by_cases hlt:j<n
  ·obtain ⟨hk1,ad1,rfl,hab1,hc1⟩:=ints_at h1 hlt
   obtain ⟨hk2,ad2,rfl,hab2,hc2⟩:=ints_at h2 hlt
   go_wp2
   go_quiet (fail)
   go_wp2
   go_roundw
   case rel=>exact ⟨j+1,_,by omega,by go_num,by first|rfl|exact World.drewN_drewN _ _ _⟩
   case measure=>simp [intOf];omega
  ·go_wp2
   go_ret
   exact ⟨rfl,bel⟩
theorem u_eqIntS (l:List Int) (A1 A2:Option Addr) (c1 c2 lo1 hi1 lo2 hi2:Nat) (w:World) (h1:OwnN w lo1 hi1 A1 c1 l) (h2:OwnN w lo2 hi2 A2 c2 l) (hn:l.length≤16777216) :
  Calls Tryz.prog 51 #[.slice A1 l.length c1,.slice A2 l.length c2] w fun e w'=>e=.returned (.bool true)∧Below w.heap.size w w' :=
 l_eqIntS_same w.heap.size A1 A2 _ c1 c2 l w h1.rd h2.rd hn
theorem l_markIntS (base:Nat) (A:Option Addr) (n c:Nat) (xs:List Value) (k:Int) (w:World) (hO:w.ownsRow base 3 1 (.slice A n c) n xs) (hk0:0≤k) (hk1:k≤4503599627370496) (hn:n≤16777216) :
  Calls Tryz.prog 54 #[.slice A n c,.int .i64 k] w fun e w'=>e=.returned (.int .i64 (k+(n:Int)))∧w'.ownsRow base 3 1 (.slice A n c) n (marksN k n)∧w.grownBy w' (Value.slice A n c).ownBlock:=by
 go_enter Tryz.func54,Tryz.ntmps54
 go_wp2
 go_loopw [1,5] (fun q i wr=>∃ j:Nat,j≤n∧i=.int .i64 j∧q=.int .i64 (k+j)∧wr.ownsRow base 3 1 (.slice A n c) n (marksN k j++xs.drop j)∧w.grownBy wr (Value.slice A n c).ownBlock) (fun _ i _=>n - (intOf i).toNat)
 case atStart=>exact ⟨0,Nat.zero_le _,rfl,by go_num,by simpa [marksN] using hO,World.grownBy.refl w _⟩
 case round =>
  obtain ⟨j,hj,rfl,rfl,hown,hg⟩:=hrel
  by_cases hlt:j<n
  ·obtain ⟨g,cap,hv,hbg,hglt⟩:=hown.form (by omega)
   have hA:A=some ⟨g,0,none⟩:=by injection hv
   subst hA
   clear hv
   have hxl:xs.length=n:=by have:=hO.1;omega
   have HX:=Lib.hid hxl
   clear hxl
   obtain ⟨u1,hc1⟩:=own_cell hown (j:=j) (by omega)
   have hf1:=hown.frozenAt j
   go_wp2
   go_roundw
   case rel =>
    have hst:=hown.stored j (.int .i64 (k+j))
    refine ⟨j+1,by omega,by go_num,by go_num,?_,?_⟩
    ·rw [← marksN_step k j xs (by have:=HX.out;omega)];exact hst.1
    ·exact only_trans hg hst.2
   case measure=>simp [intOf];omega
  ·have hjn:j=n:=by omega
   subst hjn
   have hxl:xs.length=j:=by have:=hO.1;omega
   have hd:xs.drop j=[]:=List.drop_eq_nil_of_le (by omega)
   rw [hd,List.append_nil] at hown
   clear hd hxl
   go_wp2
   go_ret
   exact ⟨rfl,hown,hg⟩
theorem u_markIntSg (l:List Int) (A:Option Addr) (c lo hi:Nat) (k:Int) (w:World) (h:OwnN w lo hi A c l) (hk0:0≤k) (hk1:k≤4503599627370496) (hn:l.length≤16777216) :
  Calls Tryz.prog 54 #[.slice A l.length c,.int .i64 k] w fun e w'=>e=.returned (.int .i64 (k+(l.length:Int)))∧MkN w' lo hi A c k l.length∧Within lo hi w w'∧w.grownBy w' (Value.slice A l.length c).ownBlock:=by
 refine (l_markIntS lo A _ c _ k w h.row hk0 hk1 hn).mono ?_
 rintro e w' ⟨rfl,ho,hg⟩
 exact ⟨rfl,⟨ho,h.top⟩,Within.of_grown h.row (by decide) hg (Nat.le_refl _) h.top,hg⟩
theorem l_heldIntS (B:Nat) (A:Option Addr) (n c:Nat) (k:Int) (w:World) (hR:Reads w B 1 A n (marksN k n)) (hk0:0≤k) (hk1:k≤4503599627370496) (hn:n≤16777216) :
  Calls Tryz.prog 55 #[.slice A n c,.int .i64 k] w fun e w'=>e=.returned (.int .i64 (k+(n:Int)))∧Below w.heap.size w w':=by
 go_enter Tryz.func55,Tryz.ntmps55
 go_wp2
 go_loopw [1,5] (fun q i wr=>∃ j m:Nat,j≤n∧i=.int .i64 j∧q=.int .i64 (k+j)∧wr=w.drewN m) (fun _ i _=>n - (intOf i).toNat)
 case atStart=>exact ⟨0,0,Nat.zero_le _,rfl,by go_num,rfl⟩
 case round =>
  obtain ⟨j,m,hj,rfl,rfl,rfl⟩:=hrel
  by_cases hlt:j<n
  ·obtain ⟨ad,u,rfl,hab,hx,hc⟩:=hR.at_ hlt
   have hu:=mkN_get hlt hx
   subst hu
   clear hx
   go_wp2
   go_roundw
   case rel=>exact ⟨j+1,_,by omega,by go_num,by go_num,rfl⟩
   case measure=>simp [intOf];omega
  ·have hjn:j=n:=by omega
   subst hjn
   go_wp2
   go_ret
   exact ⟨rfl,bel⟩
theorem u_heldIntS (A:Option Addr) (c n lo hi:Nat) (k:Int) (w:World) (h:MkN w lo hi A c k n) (hk0:0≤k) (hk1:k≤4503599627370496) (hn:n≤16777216) :
  Calls Tryz.prog 55 #[.slice A n c,.int .i64 k] w fun e w'=>e=.returned (.int .i64 (k+(n:Int)))∧Below w.heap.size w w' :=
 l_heldIntS w.heap.size A n c k w (Reads.of_own h.row) hk0 hk1 hn
open Go.ChangeShapes Go.WideShapes Go.ChangeAt Go.RowKit
set_option linter.unusedVariables false
set_option maxRecDepth 10000
structure OwnWN (w:World) (lo hi:Nat) (A1:Option Addr) (c1:Nat) (A2:Option Addr) (c2:Nat) (A3:Option Addr) (c3:Nat) (A4:Option Addr) (c4:Nat) (A5:Option Addr) (c5:Nat) (A6:Option Addr) (c6:Nat) (D:PDraft) (P:List PItem) (pp:List PPaper) (xs:List Int):Prop where
 all:∃ l1 h1 l2 h2,(lo≤l1∧h1≤hi∧lo≤l2∧h2≤hi)∧(h1≤l2∨h2≤l1)∧OwnW w l1 h1 A1 c1 A2 c2 A3 c3 A4 c4 A5 c5 D P pp∧OwnN w l2 h2 A6 c6 xs
section
variable {lo hi lo' hi':Nat} {w w':World} {A1 A2 A3 A4 A5 A6:Option Addr} {c1 c2 c3 c4 c5 c6:Nat} {D:PDraft} {P:List PItem} {pp:List PPaper} {xs:List Int}
theorem OwnWN.mk2 {l1 h1 l2 h2:Nat} (x:OwnW w l1 h1 A1 c1 A2 c2 A3 c3 A4 c4 A5 c5 D P pp) (y:OwnN w l2 h2 A6 c6 xs) (hr:lo≤l1∧h1≤hi∧lo≤l2∧h2≤hi) (ha:h1≤l2∨h2≤l1):OwnWN w lo hi A1 c1 A2 c2 A3 c3 A4 c4 A5 c5 A6 c6 D P pp xs:=⟨⟨l1,h1,l2,h2,hr,ha,x,y⟩⟩
theorem OwnWN.boxy (ho:OwnWN w lo hi A1 c1 A2 c2 A3 c3 A4 c4 A5 c5 A6 c6 D P pp xs) (h:Boxy w w'):OwnWN w' lo hi A1 c1 A2 c2 A3 c3 A4 c4 A5 c5 A6 c6 D P pp xs:=by
 obtain ⟨l1,h1,l2,h2,hr,ha,x,y⟩:=ho.all
 exact .mk2 (x.boxy h) (y.boxy h) hr ha
end
theorem MkS.grownN {w w':World} {lo hi b n m:Nat} {A:Option Addr} {c:Nat} {k:Int} {v:Value} {xs:List Value} (h:MkS w lo hi A c k n) (hp:w.ownsRow b 3 1 v m xs) (hg:w.grownBy w' v.ownBlock):MkS w' lo hi A c k n:=⟨own_grown h.row hg (own_ne_type h.row hp (by decide)),h.top⟩
theorem OwnS.grownN {w w':World} {lo hi b n:Nat} {A:Option Addr} {c:Nat} {ss:List ByteArray} {v:Value} {xs:List Value} (ho:OwnS w lo hi A c ss) (hp:w.ownsRow b 3 1 v n xs) (hg:w.grownBy w' v.ownBlock):OwnS w' lo hi A c ss :=
 ⟨own_grown ho.row hg (fun k hk he=>own_ne_type ho.row hp (by decide) k hk he),ho.top⟩
theorem OwnItems.grownN {w w':World} {lo hi b n N c:Nat} {A:Option Addr} {L:List RItem} {v:Value} {xs:List Value} (ho:OwnItems w lo hi A N c L) (hp:w.ownsRow b 3 1 v n xs) (hg:w.grownBy w' v.ownBlock):OwnItems w' lo hi A N c L :=
 ⟨own_grown ho.row hg (fun k hk he=>own_ne_type ho.row hp (by decide) k hk he),ho.top,fun r hr=>(ho.in_ r hr).grownN hp hg,ho.apart⟩
theorem MkW.grownN {w w':World} {lo hi b n1 n2 n3 n5 m:Nat} {A1 A2 A3 A4 A5:Option Addr} {c1 c2 c3 c4 c5:Nat} {P:List PItem} {k:Int} {v:Value} {xs:List Value} (h:MkW w lo hi A1 c1 n1 A2 c2 n2 A3 c3 n3 A4 c4 A5 c5 n5 P k) (hp:w.ownsRow b 3 1 v m xs) (hg:w.grownBy w' v.ownBlock):MkW w' lo hi A1 c1 n1 A2 c2 n2 A3 c3 n3 A4 c4 A5 c5 n5 P k:=by
 obtain ⟨l1,h1,l2,h2,l3,L,x,hq,y,z⟩:=h.all
 exact ⟨⟨l1,h1,l2,h2,l3,L,⟨x.m1.grownN hp hg,x.m2.grownN hp hg,x.m3.elim fun c0 h3=>⟨c0,own_grown h3 hg (own_ne_type h3 hp (by decide))⟩⟩,hq,y.grownN hp hg,own_grown z hg (own_ne_type z hp (by decide))⟩⟩
def UWorkN (d1 f1:Int) (ss1:List ByteArray) (d2 f2:Int) (ss2:List ByteArray) (st:List PStep) (P:List PItem) (pp:List PPaper) (m:Int) (xs:List Int) (w:World) (e:Ending) (w':World):Prop :=
 ∃ B1 e1 B2 e2 B3 e3 B4 e4 B5 e5 B6 e6,e=.returned (.tuple #[.agg #[.int .i64 d1,.int .i64 f1,.slice B1 ss1.length e1,.int .i64 d2,.int .i64 f2,.slice B2 ss2.length e2,.slice B3 st.length e3,.slice B4 P.length e4,.slice B5 pp.length e5,.int .i64 m],.slice B6 xs.length e6])∧OwnWN w' w.heap.size w'.heap.size B1 e1 B2 e2 B3 e3 B4 e4 B5 e5 B6 e6 ⟨d1,f1,ss1,d2,f2,ss2,st⟩ P pp xs∧Below w.heap.size w w'
open Go.ChangeShapes Go.WideShapes Go.ChangeAt Go.RowKit
set_option linter.unusedVariables false
set_option maxRecDepth 10000
structure PAct where
 (k a b:Int)
def actCells (s:PAct):List Value:=[.int .i64 s.k,.int .i64 s.a,.int .i64 s.b]
theorem actCells_len (s:PAct):(actCells s).length=3:=rfl
structure Acts (w:World) (B:Nat) (A:Option Addr) (n:Nat) (l:List PAct):Prop where
 rd:Reads w B 3 A n (l.flatMap actCells)
 nb:n≤16777216
section
variable {w w':World} {B B' n:Nat} {A:Option Addr} {l:List PAct}
theorem Acts.len (h:Acts w B A n l):l.length=n:=by
 have:=h.rd.1;rw [flat_len actCells_len] at this;omega
theorem Acts.below (h:Acts w B A n l) (hb:Below B w w'):Acts w' B A n l:=⟨h.rd.below hb,h.nb⟩
theorem actCells_at {w:World} {B n:Nat} {A:Option Addr} {l:List PAct} {k:Nat} (hR:Reads w B 3 A n (l.flatMap actCells)) (hl:l.length=n) (hk:k<n):∃ (hk':k<l.length) (ad:Addr),A=some ad∧ad.block<B∧w.cell? (ad.add (k * 3))=some (.int .i64 l[k].k)∧w.cell? ⟨(ad.add (k * 3)).block,(ad.add (k * 3)).off+1,none⟩=some (.int .i64 l[k].a)∧w.cell? ⟨(ad.add (k * 3)).block,(ad.add (k * 3)).off+2,none⟩=some (.int .i64 l[k].b):=by
 have hk':k<l.length:=by omega
 obtain ⟨ad,e,hb,hc⟩:=hR.2 (by omega)
 have hg:=fun j hj=>flat_get actCells_len l k j hk' hj
 exact ⟨hk',ad,e,hb,hc _ _ (hg 0 (by omega)),by rw [← add_next _ _ _ (by omega)];exact hc _ _ (hg 1 (by omega)),by rw [← add_next _ _ _ (by omega)];exact hc _ _ (hg 2 (by omega))⟩
theorem Acts.at_ {k:Nat} (h:Acts w B A n l) (hk:k<n):∃ (hk':k<l.length) (ad:Addr),A=some ad∧ad.block<B∧w.cell? (ad.add (k * 3))=some (.int .i64 l[k].k)∧w.cell? ⟨(ad.add (k * 3)).block,(ad.add (k * 3)).off+1,none⟩=some (.int .i64 l[k].a)∧w.cell? ⟨(ad.add (k * 3)).block,(ad.add (k * 3)).off+2,none⟩=some (.int .i64 l[k].b):=by
 have hl:=h.len
 have hk':k<l.length:=by omega
 obtain ⟨ad,e,hb,hc⟩:=h.rd.2 (by omega)
 have hg:=fun j hj=>flat_get actCells_len l k j hk' hj
 exact ⟨hk',ad,e,hb,hc _ _ (hg 0 (by omega)),by rw [← add_next _ _ _ (by omega)];exact hc _ _ (hg 1 (by omega)),by rw [← add_next _ _ _ (by omega)];exact hc _ _ (hg 2 (by omega))⟩
end
open Go.ChangeShapes Go.WideShapes Go.ChangeAt Go.RowKit
set_option linter.unusedVariables false
set_option maxRecDepth 10000
theorem info_actCells:(Tryz.prog.info? 77).map (fun i=>(i.zero,i.size,i.bytes))=some (some (.agg #[.int .i64 0,.int .i64 0,.int .i64 0]),3,24):=by kernel_rfl
theorem l_eqAct_same (k a b:Int) (w:World):Calls Tryz.prog 113 #[.agg #[.int .i64 k,.int .i64 a,.int .i64 b],.agg #[.int .i64 k,.int .i64 a,.int .i64 b]] w fun e w'=>e=.returned (.bool true)∧Below w.heap.size w w':=by
 go_enter Tryz.func113,Tryz.ntmps113
 go_wp2
 go_ret
 exact ⟨rfl,bel⟩
def FreshActs (base:Nat) (l:List PAct) (w:World) (e:Ending) (w':World):Prop :=
 ∃ A c,e=.returned (.slice A l.length c)∧w'.ownsRow base 77 3 (.slice A l.length c) l.length (l.flatMap actCells)∧Below w.heap.size w w'
theorem l_toActS (B:Nat) (A:Option Addr) (n c:Nat) (l:List PAct) (w:World) (hS:Acts w B A n l) (hB:B≤w.heap.size) :
  Calls Tryz.prog 49 #[.slice A n c] w (FreshActs w.heap.size l w):=by
 have hn:=hS.nb
 have hl:=hS.len
 have HL:=Lib.hid hl
 clear hl
 obtain ⟨i0,hi0,hz0,hz1,hz2⟩:=info_parts info_actCells
 have hmk:=run_make_rowN (P:=Tryz.prog) 85 77 i0 _ Tryz.underlying85 hi0 hz0 .i64 .i64 n n (Nat.le_refl _) (by rw [hz2];omega) (by omega) w
 rw [hz1] at hmk
 go_enter Tryz.func49,Tryz.ntmps49
 go_wp2
 go_loopw [4] (fun i wr=>∃ j:Nat,j≤n∧i=.int .i64 j∧wr.ownsRow w.heap.size 77 3 (.slice (some ⟨w.heap.size,0,none⟩) n n) n ((l.take j).flatMap actCells++reps [.int .i64 0,.int .i64 0,.int .i64 0] (n - j))∧Below w.heap.size w wr) (fun i _=>n - (intOf i).toNat)
 case atStart =>
  refine ⟨0,Nat.zero_le _,rfl,?_,bel⟩
  have h:=World.ownsRow_lit (w:=w) (base:=w.heap.size) (e:=77) (size:=3) (madeCells #[Value.int .i64 0,.int .i64 0,.int .i64 0] (n * 3)) n (Nat.le_refl _) (by unfold maxLen;omega) (by simp [madeCells])
  have hm:=made_reps [Value.int .i64 0,.int .i64 0,.int .i64 0] n (by simp)
  rw [show (madeCells #[Value.int .i64 0,.int .i64 0,.int .i64 0] (n * 3)).toList=reps [Value.int .i64 0,.int .i64 0,.int .i64 0] n from hm] at h
  simpa using h
 case round =>
  obtain ⟨j,hj,rfl,hown,hb⟩:=hrel
  by_cases hlt:j<n
  ·obtain ⟨hk1,ad,rfl,hab,hc0,hc1,hc2⟩:=(hS.below (hb.mono hB)).at_ hlt
   have hjn:j * 3+3≤n * 3:=by omega
   go_wp2_with (go_at_call 45;refine (l_toAct _ _ _ _).mono ?_;rintro e w1 ⟨rfl,hb1⟩;have ho1:=own_below hown hb1;obtain ⟨u0,hu0⟩:=own_cellk ho1 (j * 3) (by omega);have hf0:=ho1.frozenAt (j * 3);obtain ⟨u1,hu1⟩:=own_cellk ho1 (j * 3+1) (by omega);have hf1:=ho1.frozenAt (j * 3+1);obtain ⟨u2,hu2⟩:=own_cellk ho1 (j * 3+2) (by omega);have hf2:=ho1.frozenAt (j * 3+2))
   go_roundw
   case rel =>
    have hst0:=ho1.stored (j * 3) (.int .i64 l[j].k)
    have hst1:=hst0.1.stored (j * 3+1) (.int .i64 l[j].a)
    have hst2:=hst1.1.stored (j * 3+2) (.int .i64 l[j].b)
    have hgr:=only_trans ( only_trans (hst0.2) hst1.2) hst2.2
    refine ⟨j+1,by omega,by go_num,?_,only_below_B (hb.trans (hb1.mono hb.size)) hgr⟩
    have ho2:=hst2.1
    have hA:((l.take j).flatMap actCells).length=j * 3:=by rw [flat_len actCells_len,List.length_take,Nat.min_eq_left (by omega)]
    have hR:reps [.int .i64 0,.int .i64 0,.int .i64 0] (n - j)=[.int .i64 0,.int .i64 0,.int .i64 0]++reps [.int .i64 0,.int .i64 0,.int .i64 0] (n - (j+1)):=by rw [show n - j=(n - (j+1))+1 from by omega,reps_succ]
    rw [hR,set3 _ _ (j * 3) hA,← List.append_assoc] at ho2
    have hT:(l.take (j+1)).flatMap actCells=(l.take j).flatMap actCells++[.int .i64 l[j].k,.int .i64 l[j].a,.int .i64 l[j].b]:=by rw [List.take_succ_eq_append_getElem hk1,flat_snoc];rfl
    rw [hT];exact ho2
   case measure=>simp [intOf];omega
  ·have hjn:j=n:=by omega
   subst hjn
   have hE:(l.take j).flatMap actCells++reps [.int .i64 0,.int .i64 0,.int .i64 0] (j - j)=l.flatMap actCells:=by
    rw [List.take_of_length_le (by have:=HL.out;omega)];simp [reps]
   rw [hE] at hown
   clear hE
   have HO:=hide hown
   clear hown
   go_wp2
   go_ret
   have hl:=HL.out
   subst hl
   exact ⟨_,_,rfl,unhide HO,hb⟩
theorem l_eqActS_same (B:Nat) (A1 A2:Option Addr) (n c1 c2:Nat) (l:List PAct) (w:World) (h1:Acts w B A1 n l) (h2:Acts w B A2 n l) (hB:B≤w.heap.size) :
  Calls Tryz.prog 52 #[.slice A1 n c1,.slice A2 n c2] w fun e w'=>e=.returned (.bool true)∧Below w.heap.size w w':=by
 have hn:=h1.nb
 go_enter Tryz.func52,Tryz.ntmps52
 go_wp2
 go_loopw [5] (fun i wr=>∃ j:Nat,j≤n∧i=.int .i64 j∧Below w.heap.size w wr) (fun i _=>n - (intOf i).toNat)
 case atStart=>exact ⟨0,Nat.zero_le _,rfl,Below.refl _ _⟩
 case round =>
  obtain ⟨j,hj,rfl,hb⟩:=hrel
  have hzr:=hb.size
  by_cases hlt:j<n
  ·obtain ⟨hk1,ad1,rfl,hab1,ha0,ha1,ha2⟩:=(h1.below (hb.mono hB)).at_ hlt
   obtain ⟨hk2,ad2,rfl,hab2,hc0,hc1,hc2⟩:=(h2.below (hb.mono hB)).at_ hlt
   have hq1:(ad1.add (j * 3)).block<wr.heap.size:=by rw [block_of_add];omega
   have hq2:(ad2.add (j * 3)).block<wr.heap.size:=by rw [block_of_add];omega
   go_wp2
   go_region_held3 (fun W=>(∀ p:Addr,p.block<wr.heap.size→W.cell? p=(wr).cell? p)∧(∀ p:Addr,p.block<wr.heap.size→W.frozen? p=(wr).frozen? p)∧Below (wr.heap.size) (wr) W) (exact keep_ofP bel) ((go_at_call 113;refine (l_eqAct_same _ _ _ _).mono ?_;rintro e w3 ⟨rfl,hb3⟩))
   have hb3':Below wr.heap.size wr w3:=(Below.refl _ _).drew.trans hb3
   go_wp2
   go_roundw
   case rel=>exact ⟨j+1,by omega,by go_num,hb.trans (hb3'.mono hzr)⟩
   case measure=>simp [intOf];omega
  ·go_wp2
   go_ret
   exact ⟨rfl,hb⟩
def mkAct (k:Int):List Value:=[.int .i64 (k),.int .i64 (k+1),.int .i64 (k+1+1)]
theorem mkAct_len (k:Int):(mkAct k).length=3:=rfl
def marksAct (k:Int) (n:Nat):List Value:=(List.range n).flatMap fun (i:Nat)=>mkAct (k+3 * (i:Int))
theorem marksAct_len (k:Int) (n:Nat):(marksAct k n).length=n * 3:=by unfold marksAct;rw [flat_len (fun (i:Nat)=>mkAct_len _)];simp
theorem marksAct_succ (k:Int) (n:Nat):marksAct k (n+1)=marksAct k n++mkAct (k+3 * (n:Int)):=by unfold marksAct;rw [List.range_succ,flat_snoc]
theorem drop_rowAct (xs:List Value) (n j:Nat) (hx:xs.length=n * 3) (hj:j<n):∃ z0 z1 z2:Value,xs.drop (j * 3)=[z0,z1,z2]++xs.drop ((j+1) * 3):=by
 have hlt:j * 3+3≤xs.length:=by rw [hx];omega
 refine ⟨xs[j * 3],xs[j * 3+1],xs[j * 3+2],?_⟩
 rw [show (j+1) * 3=j * 3+3 by omega]
 rw [List.drop_eq_getElem_cons (show j * 3<xs.length by omega),List.drop_eq_getElem_cons (show j * 3+1<xs.length by omega),List.drop_eq_getElem_cons (show j * 3+2<xs.length by omega)]
 rfl
theorem l_markActS (base:Nat) (A:Option Addr) (n c:Nat) (xs:List Value) (k:Int) (w:World) (hO:w.ownsRow base 77 3 (.slice A n c) n xs) (hk0:0≤k) (hk1:k≤4503599627370496) (hn:n≤16777216) :
  Calls Tryz.prog 53 #[.slice A n c,.int .i64 k] w fun e w'=>e=.returned (.int .i64 (k+3 * (n:Int)))∧w'.ownsRow base 77 3 (.slice A n c) n (marksAct k n)∧w.grownBy w' (Value.slice A n c).ownBlock:=by
 go_enter Tryz.func53,Tryz.ntmps53
 go_wp2
 go_loopw [1,5] (fun q i wr=>∃ j:Nat,j≤n∧i=.int .i64 j∧q=.int .i64 (k+3 * (j:Int))∧wr.ownsRow base 77 3 (.slice A n c) n (marksAct k j++xs.drop (j * 3))∧w.grownBy wr (Value.slice A n c).ownBlock) (fun _ i _=>n - (intOf i).toNat)
 case atStart=>exact ⟨0,Nat.zero_le _,rfl,by simp,by simpa [marksAct] using hO,World.grownBy.refl w _⟩
 case round =>
  obtain ⟨j,hj,rfl,rfl,hown,hg⟩:=hrel
  have hxl:xs.length=n * 3:=hO.1
  have HX:=Lib.hid hxl
  clear hxl
  by_cases hlt:j<n
  ·obtain ⟨g,cap,hv,hbg,hglt⟩:=hown.form (by omega)
   have hA:A=some ⟨g,0,none⟩:=by injection hv
   subst hA
   clear hv
   obtain ⟨z0,z1,z2,hz⟩:=drop_rowAct xs n j HX.out hlt
   have HZ:=Lib.hid hz
   clear hz
   have hjn:j * 3+3≤n * 3:=by omega
   obtain ⟨u0,hu0⟩:=own_cellk hown (j * 3) (by omega);have hf0:=hown.frozenAt (j * 3);obtain ⟨u1,hu1⟩:=own_cellk hown (j * 3+1) (by omega);have hf1:=hown.frozenAt (j * 3+1);obtain ⟨u2,hu2⟩:=own_cellk hown (j * 3+2) (by omega);have hf2:=hown.frozenAt (j * 3+2)
   go_wp2
   have hst0:=(hown).stored (j * 3) (.int .i64 (k+3 * (j:Int)))
   have hgr0:=only_trans hg hst0.2
   have hst1:=(hst0.1).stored (j * 3+1) (.int .i64 (k+3 * (j:Int)+1))
   have hgr1:=only_trans hgr0 hst1.2
   have hst2:=(hst1.1).stored (j * 3+2) (.int .i64 (k+3 * (j:Int)+1+1))
   have hgr2:=only_trans hgr1 hst2.2
   go_roundw
   case rel =>
    refine ⟨j+1,by omega,by go_num,by congr 1;omega,?_,hgr2⟩
    have ho9:=hst2.1
    rw [HZ.out,set3 _ _ (j * 3) (marksAct_len _ _),← List.append_assoc] at ho9
    rw [marksAct_succ];exact ho9
   case measure=>simp [intOf];omega
  ·have hjn:j=n:=by omega
   subst hjn
   have hd:xs.drop (j * 3)=[]:=List.drop_eq_nil_of_le (by have:=HX.out;omega)
   rw [hd,List.append_nil] at hown
   clear hd
   go_wp2
   go_ret
   exact ⟨rfl,hown,hg⟩
structure OwnA (w:World) (lo hi:Nat) (A:Option Addr) (c:Nat) (l:List PAct):Prop where
 row:w.ownsRow lo 77 3 (.slice A l.length c) l.length (l.flatMap actCells)
 top:∀ k,(Value.slice A l.length c).ownBlock=some k→k<hi
section
variable {lo hi lo' hi':Nat} {w w':World} {A:Option Addr} {c:Nat} {l:List PAct}
theorem OwnA.within {a h:Nat} (ho:OwnA w lo hi A c l) (hW:Within a h w w') (hd:hi≤a∨h≤lo):OwnA w' lo hi A c l :=
 ⟨own_within ho.row hW (fun k hk=>by have h1:=ho.top k hk;have h2:=(ho.row.lt k hk).1;omega),ho.top⟩
theorem OwnA.below (ho:OwnA w lo hi A c l) (hb:Below w.heap.size w w'):OwnA w' lo hi A c l:=⟨own_below ho.row hb,ho.top⟩
theorem OwnA.boxy (ho:OwnA w lo hi A c l) (h:Boxy w w'):OwnA w' lo hi A c l:=⟨own_boxy ho.row (by decide) h,ho.top⟩
theorem OwnA.alloc (ho:OwnA w lo hi A c l) (o:Obj):OwnA (w.alloc o) lo hi A c l:=⟨ho.row.alloc _,ho.top⟩
theorem OwnA.of (ho:w.ownsRow lo 77 3 (.slice A l.length c) l.length (l.flatMap actCells)) (h:w.heap.size≤hi):OwnA w lo hi A c l:=⟨ho,fun k hk=>by have:=(ho.lt k hk).2;omega⟩
theorem OwnA.rd (ho:OwnA w lo hi A c l) (hn:l.length≤16777216):Acts w w.heap.size A l.length l:=⟨Reads.of_own ho.row,hn⟩
end
structure MkA (w:World) (lo hi:Nat) (A:Option Addr) (c:Nat) (k:Int) (n:Nat):Prop where
 row:w.ownsRow lo 77 3 (.slice A n c) n (marksAct k n)
 top:∀ k,(Value.slice A n c).ownBlock=some k→k<hi
def UActs (l:List PAct) (w:World) (e:Ending) (w':World):Prop :=
 ∃ A c,e=.returned (.slice A l.length c)∧OwnA w' w.heap.size w'.heap.size A c l∧Below w.heap.size w w'
theorem u_toActS (l:List PAct) (B:Nat) (A:Option Addr) (c:Nat) (w:World) (hS:Acts w B A l.length l) (hB:B≤w.heap.size) :
  Calls Tryz.prog 49 #[.slice A l.length c] w (UActs l w):=by
 refine (l_toActS B A _ c l w hS hB).mono ?_
 rintro e w' ⟨A',c',he,ho,hb⟩
 exact ⟨A',c',he,OwnA.of ho (Nat.le_refl _),hb⟩
theorem u_eqActS (l:List PAct) (A1 A2:Option Addr) (c1 c2 lo1 hi1 lo2 hi2:Nat) (w:World) (h1:OwnA w lo1 hi1 A1 c1 l) (h2:OwnA w lo2 hi2 A2 c2 l) (hn:l.length≤16777216) :
  Calls Tryz.prog 52 #[.slice A1 l.length c1,.slice A2 l.length c2] w fun e w'=>e=.returned (.bool true)∧Below w.heap.size w w' :=
 l_eqActS_same w.heap.size A1 A2 _ c1 c2 l w (h1.rd hn) (h2.rd hn) (Nat.le_refl _)
theorem u_markActS (l:List PAct) (A:Option Addr) (c lo hi:Nat) (k:Int) (w:World) (h:OwnA w lo hi A c l) (hk0:0≤k) (hk1:k≤4503599627370496) (hn:l.length≤16777216) :
  Calls Tryz.prog 53 #[.slice A l.length c,.int .i64 k] w fun e w'=>e=.returned (.int .i64 (k+3 * (l.length:Int)))∧MkA w' lo hi A c k l.length∧Within lo hi w w':=by
 refine (l_markActS lo A _ c _ k w h.row hk0 hk1 hn).mono ?_
 rintro e w' ⟨rfl,ho,hg⟩
 exact ⟨rfl,⟨ho,h.top⟩,Within.of_grown h.row (by decide) hg (Nat.le_refl _) h.top⟩
end Go.Proofs.YtdddglihomchfaaGreat
