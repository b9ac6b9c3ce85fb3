/- Contracts of the program's and the reference's functions (ScenP). -/
import Derived.Test.YtlimlolciekimaaGreatDoorRows
import Derived.Test.YtlimlolciekimaaGreatDoorQRr
import Derived.Test.YtlimlolciekimaaGreatDoorQRu
namespace Go.Proofs.YtlimlolciekimaaGreatDoor
set_option maxHeartbeats 1600000
set_option linter.unusedVariables false
theorem Zkl {d f:Int} {ss:List ByteArray} (h:Zac d f ss=true):ZaG ⟨d,f,ss,d,f,ss,[]⟩=true:=Zb1.2 ⟨⟨h,Nat.zero_le _⟩,rfl,rfl,rfl⟩
theorem Znr {on:Bool} {d f:Int} {ss:List ByteArray} {K F L T I:Int} {b a:ByteArray} (h:Zac d f ss=true):Zac d f (Zab on d f ss K F L T I b a).1=true:=by
 have hbox:∀ c:UInt8,Zac d f (Zax c d f ss F L T).1=true:=by
  intro c
  unfold Zax
  split
  ·rename_i q;exact ZfZ h q.2
  ·exact h
 have hput:∀ (s:ByteArray),Zac d f (ZbX d f ss I s).1=true:=by
  intro s
  unfold ZbX
  split
  ·rename_i q
   rw [Bool.and_eq_true] at q
   exact q.2
  ·exact h
 have hex:∀ (x y:ByteArray),Zac d f (ZaR d f ss I x y).1=true:=by
  intro x y
  unfold ZaR
  split
  ·exact hput _
  ·exact h
 unfold Zab
 split
 ·exact h
 ·split
  ·exact hbox _
  ·split
   ·exact hbox _
   ·split
    ·exact hex _ _
    ·exact hex _ _
theorem ZiK {d f:Int}:∀ (l:List Zv) (ss sn:List ByteArray),Zac d f ss=true→ZaL d f l ss=some sn→Zac d f sn=true:=by
 intro l
 induction l with
 |nil=>intro ss sn h e;simp only [ZaL] at e;injection e with e;rw [← e];exact h
 |cons s l ih =>
  intro ss sn h e
  simp only [ZaL] at e
  split at e
  ·exact ih _ _ (Znr h) e
  ·cases e
theorem Zew {D:Zd} (h:ZaG D=true):Zac D.d2 D.f2 D.ss2=true:=by
 obtain ⟨⟨h1,_⟩,h2,h3,h4⟩:=Zb1.1 h
 rw [← h2,← h3]
 exact ZiK _ _ _ h1 h4
theorem ZoD {s:ByteArray} (h:Zar s.data.toList=true):s.size≤16:=by
 unfold Zar inB at h
 simp at h
 have:s.data.toList.length=s.size:=by simp
 simp at this
 omega
theorem Zk2 {d f:Int} {ss:List ByteArray} (h:Zac d f ss=true):(1≤d∧d≤8∧1≤f∧f≤8)∧(1≤ss.length∧ss.length≤10)∧∀ s∈ss,s.size≤16:=by
 unfold Zac at h
 simp only [Bool.and_eq_true,List.all_eq_true] at h
 obtain ⟨⟨h1,h2⟩,h3,h4⟩:=h
 have e1:=Za5.1 h1
 have e2:=Za5.1 h2
 have e3:=Za5.1 h3
 refine ⟨⟨by omega,by omega,by omega,by omega⟩,⟨by omega,by omega⟩,fun s hs=>?_⟩
 have hs2:=h4 s hs
 unfold Zb2 ZcF at hs2
 by_cases hi:Zar s.data.toList=true
 ·exact ZoD hi
 ·rw [if_neg hi] at hs2
  simp at hs2
  omega
theorem ZlT {D:Zd} {m:Int} (h:ZaG D=true) (h0:0≤m) (h1:m≤1000000):Zp ⟨D,[],[],m⟩=true:=Za3.2 ⟨h,rfl,Nat.zero_le _,rfl,h0,h1⟩
def Znv:List ByteArray:=[⟨#[97,114,99,104]⟩,⟨#[98,97,114,110]⟩,⟨#[98,111,97,116]⟩,⟨#[98,114,105,100,103,101]⟩,⟨#[99,97,115,116,108,101]⟩,⟨#[99,97,116]⟩,⟨#[99,104,97,105,114]⟩,⟨#[100,114,97,103,111,110]⟩,⟨#[102,111,120]⟩,⟨#[104,111,117,115,101]⟩]
structure ZqC (W:Zh) (np ni:Nat):Prop where
 ok:Zp W=true
 z:ZaI W.D W.P W.pp 1048576
 st:W.D.st.length≤6
 pl:W.pp.length≤np
 pk:∀ p∈W.pp,p.k≤2
 il:W.P.length≤ni
 nm:∀ x∈W.P,x.nm∈Znv
 mb:W.m≤5000
end Go.Proofs.YtlimlolciekimaaGreatDoor
