/- Contracts of the program's and the reference's functions (TxtR). -/
import Derived.Test.YtlimlolciekimaaGreatDoorRows
import Derived.Test.YtlimlolciekimaaGreatDoorQHao
import Derived.Test.YtlimlolciekimaaGreatDoorQHat
import Derived.Test.YtlimlolciekimaaGreatDoorQHar
import Derived.Test.YtlimlolciekimaaGreatDoorQHr
import Derived.Test.YtlimlolciekimaaGreatDoorQHw
import Derived.Test.YtlimlolciekimaaGreatDoorQHp
namespace Go.Proofs.YtlimlolciekimaaGreatDoor
set_option maxHeartbeats 1600000
open Go.ChangeShapes Go.WideShapes Go.ChangeAt Go.RowKit
set_option linter.unusedVariables false
set_option linter.unusedSimpArgs false
set_option maxRecDepth 10000
theorem hts_nn:∀ (l:List UInt8) (u:Int),(∀ x∈l,x=100∨x=102)→(cnt 100 l:Int)≤u→∀ x∈hts u l,0≤x
 |[],_,_,_,x,hx=>by cases hx
 |c :: l,u,ha,h,x,hx=>by
  have hl:∀ x∈l,x=100∨x=102:=fun y hy=>ha y (by simp [hy])
  unfold cnt at h
  rw [List.count_cons] at h
  simp only [hts] at hx
  split at hx
  ·rename_i hc
   subst hc
   simp at h
   rcases List.mem_cons.1 hx with rfl|hx
   ·omega
   ·exact hts_nn l u hl h x hx
  ·rename_i hc
   have hc1:c=100:=by
    rcases ha c (by simp) with h1|h1
    ·exact h1
    ·exact absurd h1 hc
   subst hc1
   simp at h
   exact hts_nn l (u - 1) hl (by unfold cnt;omega) x hx
theorem sumL_nn:∀ (a:List Int),(∀ x∈a,0≤x)→0≤sumL a
 |[],_=>by simp [sumL]
 |x :: a,h=>by
  have h1:=h x (by simp)
  have h2:=sumL_nn a fun y hy=>h y (by simp [hy])
  simp only [sumL];omega
theorem volL_nn:∀ (ss:List ByteArray),(∀ s∈ss,isStrip s.data.toList=true)→0≤volL ss
 |[],_=>by simp [volL]
 |s :: ss,h=>by
  have h1:=h s (by simp)
  have h2:=volL_nn ss fun y hy=>h y (by simp [hy])
  have h3:0≤roomOf s.data.toList:=by
   rw [roomOf_yes h1]
   exact sumL_nn _ (hts_nn _ _ (strip_two h1) (Int.le_refl _))
  simp only [volL];omega
theorem volOf_num {d f:Int} {ss:List ByteArray} (h:cardOk d f ss=true):0≤volOf d f ss∧volOf d f ss≤1280:=by
 have h1:=volL_nn ss (card_strips h).2
 have h2:=(volL_bd ss).2
 have h3:=(card_bounds h).2.1.2
 unfold volOf
 rw [if_pos h]
 exact ⟨h1,by omega⟩
theorem doAct_num {W:PWork} {k a b:Int} (h:workOk W=true) (ha:actOk k a b=true):0≤(doActRes W k a b).2∧(doActRes W k a b).2≤1280:=by
 unfold doActRes
 rw [if_pos ⟨h,ha⟩]
 split
 ·exact volOf_num (draft_card (workOk_iff.1 h).1)
 ·show 0≤(if _ then (1:Int) else 0)∧(if _ then (1:Int) else 0)≤1280
  split <;> omega
theorem runAll_num:∀ (l:List PAct) (W:PWork) (xs:List Int),workOk W=true→(∀ x∈l,actOk x.k x.a x.b=true)→(∀ x∈xs,0≤x∧x≤1280)→∀ x∈(runAll W xs l).2,0≤x∧x≤1280
 |[],_,_,_,_,h,x,hx=>h x hx
 |y :: l,W,xs,hw,hl,h,x,hx=>by
  refine runAll_num l _ _ (doAct_work hw) (fun z hz=>hl z (by simp [hz])) ?_ x hx
  intro z hz
  rcases List.mem_append.1 hz with hz|hz
  ·exact h z hz
  ·rw [List.mem_singleton.1 hz];exact doAct_num hw (hl y (by simp))
theorem runRes_num {W:PWork} {l:List PAct} (hw:workOk W=true) (hl:∀ x∈l,actOk x.k x.a x.b=true):∀ x∈(runRes W l).2,0≤x∧x≤1280:=by
 unfold runRes
 split
 ·exact runAll_num l W [] hw hl fun x hx=>by cases hx
 ·intro x hx;cases hx
def numsT (xs:List Int):List ByteArray:=xs.map fun x=>numT x.toNat
theorem sample_wk:workOk ⟨⟨3,4,sampleSS,3,4,sampleSS,[]⟩,[],[],100⟩=true:=work_first (draft_first (by decide)) (by omega) (by omega)
def sampleW:PWork:=(openW 3 4 sampleSS 100).1
theorem sampleW_eq:sampleW=⟨⟨3,4,sampleSS,3,4,sampleSS,[]⟩,[],[],100⟩:=by
 unfold sampleW;rw [openW_yes sample_wk]
theorem sampleW_ok:workOk sampleW=true:=by rw [sampleW_eq];exact sample_wk
theorem sampleW_z:OkWork sampleW.D sampleW.P sampleW.pp 1048576:=openW_ok 3 4 sampleSS 100 sample_ok
def scrOut (s:ByteArray):Option (List PAct):=if s.size≤20000 then (scanL (linesOf s)).bind (fun l=>if l.length≤40 then some l else none) else none
def runT (l:List PAct):List ByteArray:=numsT (runRes sampleW l).2++shopT (runRes sampleW l).1
theorem scrOut_long {s:ByteArray} (h:20000<s.size):scrOut s=none:=by unfold scrOut;rw [if_neg (by omega)]
theorem scrOut_none {s:ByteArray} (h:scanL (linesOf s)=none):scrOut s=none:=by unfold scrOut;rw [h];split <;> rfl
theorem scrOut_many {s:ByteArray} {l:List PAct} (h:scanL (linesOf s)=some l) (h2:40<l.length):scrOut s=none:=by
 unfold scrOut;rw [h];split
 ·show (if _ then _ else _)=_;rw [if_neg (by omega)]
 ·rfl
theorem scrOut_yes {s:ByteArray} {l:List PAct} (h0:s.size≤20000) (h:scanL (linesOf s)=some l) (h2:l.length≤40):scrOut s=some l:=by
 unfold scrOut;rw [if_pos h0,h];show (if _ then _ else _)=_;rw [if_pos h2]
structure SC (ls:List ByteArray) (k:Nat) (la:List PAct):Prop where
 eq:scanL ls=(scanL (ls.drop k)).map (la++·)
 len:la.length≤k
 ok:∀ x∈la,actOk x.k x.a x.b=true
theorem map_nil_app (o:Option (List PAct)):o=o.map (([]:List PAct)++·):=by cases o <;> simp
theorem map_one_app (la:List PAct) (x:PAct) (o:Option (List PAct)):(o.map (x :: ·)).map (la++·)=o.map ((la++[x])++·):=by cases o <;> simp
theorem SC.start (ls:List ByteArray):SC ls 0 []:=⟨by rw [List.drop_zero];exact map_nil_app _,Nat.le_refl _,fun x hx=>by cases hx⟩
theorem par_ok {x:ByteArray} (h3:parOk (flds x)=true):actOk (pK (flds x):Int) (pN (flds x) 1:Int) (pN (flds x) 2:Int)=true:=by
 unfold parOk at h3
 simp only [Bool.and_eq_true] at h3
 exact h3.1
def actL (x:ByteArray):PAct:=⟨(pK (flds x):Int),(pN (flds x) 1:Int),(pN (flds x) 2:Int)⟩
theorem SC.skip {ls:List ByteArray} {k:Nat} {la:List PAct} (h:SC ls k la) (hk:k<ls.length) (h1:fldOk ls[k]=true) (h2:flds ls[k]=[]):SC ls (k+1) la :=
 ⟨by rw [h.eq,List.drop_eq_getElem_cons hk,scanL_skip h1 h2],by have:=h.len;omega,h.ok⟩
theorem SC.act {ls:List ByteArray} {k:Nat} {la:List PAct} (h:SC ls k la) (hk:k<ls.length) (h1:fldOk ls[k]=true) (h2:parOk (flds ls[k])=true):SC ls (k+1) (la++[actL ls[k]]) :=
 ⟨by rw [h.eq,List.drop_eq_getElem_cons hk,scanL_act h1 h2];exact map_one_app _ _ _,by have:=h.len;simp;omega,fun x hx=>by
  rcases List.mem_append.1 hx with hx|hx
  ·exact h.ok x hx
  ·rw [List.mem_singleton.1 hx];exact par_ok h2⟩
theorem SC.bad {ls:List ByteArray} {k:Nat} {la:List PAct} (h:SC ls k la) (hk:k<ls.length) (h1:¬(fldOk ls[k]=true∧flds ls[k]=[])) (h2:¬(fldOk ls[k]=true∧parOk (flds ls[k])=true)):scanL ls=none:=by
 rw [h.eq,List.drop_eq_getElem_cons hk,scanL_bad h1 h2];rfl
theorem SC.fin {ls:List ByteArray} {k:Nat} {la:List PAct} (h:SC ls k la) (hk:ls.length≤k):scanL ls=some la:=by
 rw [h.eq,List.drop_eq_nil_of_le hk];simp [scanL]
theorem spl_len (c:UInt8):∀ (l cur:List UInt8),(spl c cur l).length≤l.length+1
 |[],cur=>by simp [spl]
 |b :: l,cur=>by
  unfold spl
  split
  ·have:=spl_len c l [];simp;omega
  ·have:=spl_len c l (cur++[b]);simp;omega
theorem spl_size (c:UInt8):∀ (l cur:List UInt8),∀ x∈spl c cur l,x.length≤cur.length+l.length
 |[],cur,x,hx=>by simp [spl] at hx;subst hx;simp
 |b :: l,cur,x,hx=>by
  unfold spl at hx
  split at hx
  ·rcases List.mem_cons.1 hx with rfl|hx
   ·simp
   ·have:=spl_size c l [] x hx;simp at this ⊢;omega
  ·have:=spl_size c l (cur++[b]) x hx;simp at this ⊢;omega
theorem lines_len (s:ByteArray):(linesOf s).length≤s.size+1:=by
 unfold linesOf
 rw [List.length_map]
 have h:=spl_len 10 s.data.toList []
 have e:s.data.toList.length=s.size:=by rw [Array.length_toList];rfl
 omega
theorem lines_size {s x:ByteArray} (h:x∈linesOf s):x.size≤s.size:=by
 unfold linesOf at h
 obtain ⟨l,hl,rfl⟩:=List.mem_map.1 h
 have h:=spl_size 10 s.data.toList [] l hl
 have e:s.data.toList.length=s.size:=by rw [Array.length_toList];rfl
 have e2:(⟨l.toArray⟩:ByteArray).size=l.length:=by show l.toArray.size=_;simp
 rw [e2];simp only [List.length_nil] at h;omega
def mkLs (l:List (List UInt8)):List ByteArray:=l.map fun l=>⟨l.toArray⟩
structure SB (s:ByteArray) (i b:Nat) (la:List PAct):Prop where
 go:i≤s.size→b≤i∧scanL (linesOf s)=(scanL (mkLs (spl 10 ((s.data.toList.take i).drop b) (s.data.toList.drop i)))).map (la++·)
 fin:i=s.size+1→scanL (linesOf s)=some la
 len:la.length≤i
 ok:∀ x∈la,actOk x.k x.a x.b=true
theorem scrT_out {l:List PAct} (h:∀ x∈l,actOk x.k x.a x.b=true) (hl:l.length≤13):scrOut (scrT l l.length)=some l:=by
 have h1:=scrT_le l l.length
 exact scrOut_yes (by omega) (scan_script l h) (by omega)
end Go.Proofs.YtlimlolciekimaaGreatDoor
