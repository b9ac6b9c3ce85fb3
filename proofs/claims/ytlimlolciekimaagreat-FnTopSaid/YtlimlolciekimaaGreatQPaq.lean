/- Contracts of the program's and the reference's functions (TopP, Stay1). -/
import Derived.Test.YtlimlolciekimaaGreatRows
import Derived.Test.YtlimlolciekimaaGreatQPr
import Derived.Test.YtlimlolciekimaaGreatQPz
import Derived.Test.YtlimlolciekimaaGreatQPaa
namespace Go.Proofs.YtlimlolciekimaaGreat
set_option maxHeartbeats 1600000
set_option linter.unusedVariables false
set_option maxRecDepth 10000
def mony (m k b n:Int):Int:=if n≠1 then m else if k=1∨k=2 then m - 1 else if k=4 then m - 2 * b else if k=6 then m+5 * b else m
theorem mony_no {m k b n:Int} (h:n≠1):mony m k b n=m:=by unfold mony;rw [if_pos h]
theorem mony_1 {m k b:Int} (h:k=1∨k=2):mony m k b 1=m - 1:=by unfold mony;rw [if_neg (by simp),if_pos h]
theorem mony_4 {m b:Int}:mony m 4 b 1=m - 2 * b:=rfl
theorem mony_6 {m b:Int}:mony m 6 b 1=m+5 * b:=rfl
theorem mony_o {m k b:Int} (h1:¬k=1) (h2:¬k=2) (h4:¬k=4) (h6:¬k=6):mony m k b 1=m:=by unfold mony;rw [if_neg (by simp),if_neg (by omega),if_neg h4,if_neg h6]
theorem perf_money {W:PWork} {k a b:Int}:(perf W k a b).1.m=if (perf W k a b).2=true then (if k=1∨k=2 then W.m - 1 else if k=4 then W.m - 2 * b else if k=6 then W.m+5 * b else W.m) else W.m:=by
 have hs:∀ s,(shapeRes W s).1.m=if (shapeRes W s).2=true then W.m - 1 else W.m:=by
  intro s;unfold shapeRes;split <;> rfl
 by_cases h1:k=1
 ·subst h1;rw [perf_1,hs];simp
 by_cases h2:k=2
 ·subst h2;rw [perf_2,hs];simp
 by_cases h3:k=3
 ·subst h3;rw [perf_3];unfold unshapeRes;split <;> simp
 by_cases h4:k=4
 ·subst h4;rw [perf_4];unfold buyRes;split <;> simp
 by_cases h5:k=5
 ·subst h5;rw [perf_5];unfold keepRes;split <;> simp
 by_cases h6:k=6
 ·subst h6;rw [perf_6];unfold makeRes;split <;> simp
 have e:perf W k a b=forgetRes W (nameOf a):=by unfold perf;rw [if_neg h1,if_neg h2,if_neg h3,if_neg h4,if_neg h5,if_neg h6]
 rw [e,if_neg (by omega:¬(k=1∨k=2)),if_neg h4,if_neg h6]
 unfold forgetRes;split <;> simp
theorem top_money {W:PWork} {k a b:Int}:(doActRes W k a b).1.m=mony W.m k b (doActRes W k a b).2:=by
 unfold doActRes
 split
 ·split
  ·rename_i h8
   subst h8
   unfold mony
   split
   ·rfl
   ·simp
  ·show (perf W k a b).1.m=_
   rw [perf_money]
   unfold mony
   by_cases hp:(perf W k a b).2=true
   ·simp [hp]
   ·simp [hp]
 ·exact (mony_no (show (-1:Int)≠1 by decide)).symm
theorem do_first {D:PDraft} {s:PStep}:(doRes D s).1.d1=D.d1∧(doRes D s).1.f1=D.f1∧(doRes D s).1.ss1=D.ss1:=by
 unfold doRes;split <;> exact ⟨rfl,rfl,rfl⟩
theorem undo_first {D:PDraft}:(undoRes D).1.d1=D.d1∧(undoRes D).1.f1=D.f1∧(undoRes D).1.ss1=D.ss1:=by
 unfold undoRes
 split
 ·split <;> exact ⟨rfl,rfl,rfl⟩
 ·exact ⟨rfl,rfl,rfl⟩
theorem perf_first {W:PWork} {k a b:Int}:(perf W k a b).1.D.d1=W.D.d1∧(perf W k a b).1.D.f1=W.D.f1∧(perf W k a b).1.D.ss1=W.D.ss1:=by
 have hs:∀ s,(shapeRes W s).1.D.d1=W.D.d1∧(shapeRes W s).1.D.f1=W.D.f1∧(shapeRes W s).1.D.ss1=W.D.ss1:=by
  intro s
  unfold shapeRes
  split
  ·exact do_first
  ·exact ⟨rfl,rfl,rfl⟩
 unfold perf
 split
 ·exact hs _
 ·split
  ·exact hs _
  ·split
   ·unfold unshapeRes
    split
    ·exact undo_first
    ·exact ⟨rfl,rfl,rfl⟩
   ·split
    ·unfold buyRes;split <;> exact ⟨rfl,rfl,rfl⟩
    ·split
     ·unfold keepRes;split <;> exact ⟨rfl,rfl,rfl⟩
     ·split
      ·unfold makeRes;split <;> exact ⟨rfl,rfl,rfl⟩
      ·unfold forgetRes;split <;> exact ⟨rfl,rfl,rfl⟩
theorem top_first {W:PWork} {k a b:Int}:(doActRes W k a b).1.D.d1=W.D.d1∧(doActRes W k a b).1.D.f1=W.D.f1∧(doActRes W k a b).1.D.ss1=W.D.ss1:=by
 unfold doActRes
 split
 ·split
  ·exact ⟨rfl,rfl,rfl⟩
  ·exact perf_first
 ·exact ⟨rfl,rfl,rfl⟩
theorem top_len {d f:Int} {ss:List ByteArray} (h:cardOk d f ss=true) {s:ByteArray} (hs:s∈ss):isStrip s.data.toList=true∧((s.size:Nat):Int)=d+f:=by
 unfold cardOk at h
 simp only [Bool.and_eq_true,List.all_eq_true] at h
 have h1:=h.2.2 s hs
 have h2:isStrip s.data.toList=true∧downOf s.data.toList=d∧forwardOf s.data.toList=f:=by
  unfold stripOf at h1
  simp only [Bool.and_eq_true,beq_iff_eq] at h1
  refine ⟨?_,h1.1,h1.2⟩
  cases hq:isStrip s.data.toList
  ·have h0:=h1.1
   unfold downOf at h0
   rw [hq] at h0
   have hd:=h.1.1
   unfold isStepsB inB at hd
   simp at hd h0
   omega
  ·rfl
 refine ⟨h2.1,?_⟩
 have h3:=h2.2.1
 have h4:=h2.2.2
 have h5:=h2.1
 unfold downOf at h3
 unfold forwardOf at h4
 rw [if_pos h2.1] at h3 h4
 unfold isStrip at h5
 simp only [Bool.and_eq_true,beq_iff_eq] at h5
 have h6:s.data.toList.length=s.size:=by simp
 omega
open Go.ChangeShapes Go.WideShapes Go.ChangeAt Go.RowKit
set_option linter.unusedSimpArgs false
theorem w64S {x:Int} (h:-9223372036854775808≤x∧x≤9223372036854775807):IntKind.i64.wrap x=x:=by rw [IntKind.wrap_i64];omega
theorem cnt_take_all (l:List UInt8) (k:Nat):cnt 102 (l.take k)≤cnt 102 l∧cnt 102 (l.take k)≤k:=by
 constructor
 ·have:cnt 102 l=cnt 102 (l.take k)+cnt 102 (l.drop k):=by
   unfold cnt
   rw [← List.count_append,List.take_append_drop]
  omega
 ·have h1:=cnt_le 102 (l.take k)
  have h2:(l.take k).length≤k:=List.length_take_le _ _
  omega
theorem i_StripAt (s:ByteArray) (k f:Nat) (w:World) (h:isStrip s.data.toList=true) (hz:s.size≤16) (hk:k≤s.size) (hf:cnt 102 (s.data.toList.take k)=f) :
  Calls Tryz.prog 135 #[.string s,.int .i64 (k:Int)] w fun e w'=>e=.returned (.tuple #[.int .i64 (f:Int),.int .i64 ((k:Int) - (f:Int)),.bool true])∧w=w':=by
 have hq1:∀ W:World,Calls Tryz.prog 37 #[.string s] W fun e w'=>e=.returned (.bool (isStrip s.data.toList))∧W=w':=fun W=>i_IsStrip s W (by unfold maxLen;omega)
 rw [h] at hq1
 have hq2:∀ W:World,Calls Tryz.prog 35 #[.int .i64 (k:Int),.int .i64 0,.int .i64 (s.size:Int)] W fun e w'=>e=.returned (.bool (inB (k:Int) 0 (s.size:Int)))∧W=w':=fun W=>i_within _ _ _ _
 rw [show inB (k:Int) 0 (s.size:Int)=true by simp [inB];omega] at hq2
 have hq3:=fun (W:World)=>i_forwards s (k:Int) k W rfl hk (by omega)
 rw [hf] at hq3
 have hfk:=(cnt_take_all s.data.toList k).2
 rw [hf] at hfk
 have hw1:IntKind.i64.wrap ((k:Int) - (f:Int))=(k:Int) - (f:Int):=w64S (by omega)
 have H1:=hide hq1
 have H2:=hide hq2
 have H3:=hide hq3
 clear hq1 hq2 hq3 hf
 go_enter Tryz.func135,Tryz.ntmps135
 go_wp2_with (first|(go_at_call 37;refine (H1.out _).mono ?_;rintro e w' ⟨rfl,rfl⟩)|(go_at_call 35;refine (H2.out _).mono ?_;rintro e w' ⟨rfl,rfl⟩)|(go_at_call 157;refine (H3.out _).mono ?_;rintro e w' ⟨rfl,rfl⟩))
 refine bodyPost_ret (v:=.tuple #[.int .i64 (f:Int),.int .i64 ((k:Int) - (f:Int)),.bool true]) (by simp [results,Tryz.results135,go_sem, *]) rfl ?_
 exact ⟨rfl,rfl⟩
theorem i_PlaceOf0 (s:ByteArray) (k:Nat) (w:World) (h:isStrip s.data.toList=true) (hz:s.size≤16) (hk:k≤s.size) :
  Calls Tryz.prog 115 #[.string s,.int .i64 (k:Int),.int .i64 0] w fun e w'=>∃ x:Int,e=.returned (.tuple #[.int .i64 x,.int .i64 0,.bool true])∧-64≤x∧x≤s.size∧w=w':=by
 obtain ⟨f,hf⟩:∃ f,cnt 102 (s.data.toList.take k)=f:=⟨_,rfl⟩
 have hq1:=fun (W:World)=>i_StripAt s k f W h hz hk hf
 have hq2:∀ W:World,Calls Tryz.prog 35 #[.int .i64 0,.int .i64 0,.int .i64 2] W fun e w'=>e=.returned (.bool true)∧W=w':=fun W=>i_within _ _ _ _
 have hq3:=fun (W:World)=>i_DownOf s W (by unfold maxLen;omega)
 rw [down_strip h] at hq3
 obtain ⟨h1,h2⟩:=cnt_take_all s.data.toList k
 have hl:=strip_len h
 have hlen:s.data.toList.length=s.size:=by simp
 rw [hf] at h1 h2
 obtain ⟨D,hD⟩:∃ d,cnt 100 s.data.toList=d:=⟨_,rfl⟩
 rw [hD] at hq3 hl
 have hw1:IntKind.i64.wrap ((D:Int) - ((k:Int) - (f:Int)))=(D:Int) - ((k:Int) - (f:Int)):=w64S (by omega)
 have hw2:IntKind.i64.wrap ((f:Int)+((D:Int) - ((k:Int) - (f:Int))))=(f:Int)+((D:Int) - ((k:Int) - (f:Int))):=w64S (by omega)
 have HB:Hid (-64≤(f:Int)+((D:Int) - ((k:Int) - (f:Int)))∧(f:Int)+((D:Int) - ((k:Int) - (f:Int)))≤s.size):=⟨by omega,by omega⟩
 have H1:=hide hq1
 have H2:=hide hq2
 have H3:=hide hq3
 clear hq1 hq2 hq3 hf h1 h2 hl hlen hD
 go_enter Tryz.func115,Tryz.ntmps115
 go_wp2_with (first|(go_at_call 135;refine (H1.out _).mono ?_;rintro e w' ⟨rfl,rfl⟩)|(go_at_call 35;refine (H2.out _).mono ?_;rintro e w' ⟨rfl,rfl⟩)|(go_at_call 85;refine (H3.out _).mono ?_;rintro e w' ⟨rfl,rfl⟩))
 refine bodyPost_ret (v:=.tuple #[.int .i64 ((f:Int)+((D:Int) - ((k:Int) - (f:Int)))),.int .i64 0,.bool true]) (by simp [results,Tryz.results115,go_sem, *]) rfl ?_
 exact ⟨_,rfl,HB.out.1,HB.out.2,rfl⟩
theorem i_reach0 (s:ByteArray) (w:World) (h:isStrip s.data.toList=true) (hz:s.size≤16) :
  Calls Tryz.prog 78 #[.string s,.int .i64 0] w fun e w'=>∃ x y:Int,e=.returned (.tuple #[.int .i64 x,.int .i64 y])∧y≤s.size∧w=w':=by
 have hq0:∀ W:World,Calls Tryz.prog 115 #[.string s,.int .i64 0,.int .i64 0] W fun e w'=>∃ x:Int,e=.returned (.tuple #[.int .i64 x,.int .i64 0,.bool true])∧-64≤x∧x≤s.size∧W=w':=fun W=>by simpa using i_PlaceOf0 s 0 W h hz (Nat.zero_le _)
 have hq1:=fun (k:Nat) (hk:k≤s.size) (W:World)=>i_PlaceOf0 s k W h hz hk
 have H0:=hide hq0
 have H1:=hide hq1
 have hw:IntKind.i64.wrap ((s.size:Int)+1)=(s.size:Int)+1:=w64S (by omega)
 clear hq0 hq1
 go_enter Tryz.func78,Tryz.ntmps78
 go_wp2_with fail
 refine (H0.out _).mono ?_
 rintro e w' ⟨x0,rfl,hx0,hx1,rfl⟩
 go_wp2
 go_loopw [6,9,25] (fun p q i wr=>∃ (j:Nat) (x y:Int),j≤s.size+1∧i=.int .i64 (j:Int)∧p=.int .i64 x∧q=.int .i64 y∧(-64≤x∧x≤s.size)∧(-64≤y∧y≤s.size)∧wr=w) (fun _ _ i _=>s.size+1 - (intOf i).toNat)
 case atStart=>exact ⟨0,x0,x0,Nat.zero_le _,rfl,rfl,rfl,⟨hx0,hx1⟩,⟨hx0,hx1⟩,rfl⟩
 case round =>
  obtain ⟨j,x,y,hj,rfl,rfl,rfl,⟨hx2,hx3⟩,⟨hy2,hy3⟩,rfl⟩:=hrel
  by_cases hlt:j<s.size+1
  ·have hji:(j:Int)<(s.size:Int)+1:=by omega
   go_wp2_with fail
   refine (H1.out j (by omega) _).mono ?_
   rintro e w' ⟨z,rfl,hz0,hz1,rfl⟩
   obtain ⟨mn,hmn⟩:∃ m,min x z=m:=⟨_,rfl⟩
   obtain ⟨mx,hmx⟩:∃ m,max y z=m:=⟨_,rfl⟩
   go_wp2
   go_roundw
   case rel=>exact ⟨j+1,mn,mx,by omega,by go_num,rfl,rfl,⟨by omega,by omega⟩,⟨by omega,by omega⟩,by trivial⟩
   case measure=>simp [intOf];omega
  ·have hjn:j=s.size+1:=by omega
   subst hjn
   have hji:¬((s.size+1:Nat):Int)<(s.size:Int)+1:=by omega
   go_wp2
   refine bodyPost_ret (v:=.tuple #[.int .i64 x,.int .i64 y]) (by simp [results,Tryz.results78,go_sem, *]) rfl ?_
   exact ⟨x,y,rfl,hy3,rfl⟩
theorem i_StaysInside (s:ByteArray) (w:World) (h:isStrip s.data.toList=true) (hz:s.size≤16) :
  Calls Tryz.prog 11 #[.string s,.int .i64 (s.size:Int)] w fun e w'=>e=.returned (.bool true)∧w=w':=by
 have hq1:∀ W:World,Calls Tryz.prog 37 #[.string s] W fun e w'=>e=.returned (.bool (isStrip s.data.toList))∧W=w':=fun W=>i_IsStrip s W (by unfold maxLen;omega)
 rw [h] at hq1
 have hl:=strip_len h
 have hlen:s.data.toList.length=s.size:=by simp
 have hq2:∀ W:World,Calls Tryz.prog 35 #[.int .i64 (s.size:Int),.int .i64 1,.int .i64 40] W fun e w'=>e=.returned (.bool (inB (s.size:Int) 1 40))∧W=w':=fun W=>i_within _ _ _ _
 rw [show inB (s.size:Int) 1 40=true by simp [inB];omega] at hq2
 have H1:=hide hq1
 have H2:=hide hq2
 have hr:∀ W:World,Calls Tryz.prog 38 #[.string s] W fun e w'=>∃ y:Int,e=.returned (.int .i64 y)∧y≤s.size∧W=w':=by
  intro W
  have hq3:=fun (W:World)=>i_reach0 s W h hz
  have H3:=hide hq3
  clear hq3 hq1 hq2 hl hlen
  go_enter Tryz.func38,Tryz.ntmps38
  go_wp2_with (first|(go_at_call 37;refine (H1.out _).mono ?_;rintro e w' ⟨rfl,rfl⟩))
  refine (H3.out _).mono ?_
  rintro e w' ⟨x,y,rfl,hy,rfl⟩
  go_wp2
  go_ret
  exact ⟨y,rfl,hy,rfl⟩
 have H4:=hide hr
 clear hq1 hq2 hr hl hlen
 go_enter Tryz.func11,Tryz.ntmps11
 go_wp2_with (first|(go_at_call 37;refine (H1.out _).mono ?_;rintro e w' ⟨rfl,rfl⟩)|(go_at_call 35;refine (H2.out _).mono ?_;rintro e w' ⟨rfl,rfl⟩))
 refine (H4.out _).mono ?_
 rintro e w' ⟨y,rfl,hy,rfl⟩
 have hd:decide (y≤(s.size:Int))=true:=decide_eq_true hy
 go_wp2
 go_ret
 exact ⟨rfl,rfl⟩
end Go.Proofs.YtlimlolciekimaaGreat
