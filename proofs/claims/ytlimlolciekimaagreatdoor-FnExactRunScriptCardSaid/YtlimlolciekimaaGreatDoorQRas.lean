/- Contracts of the program's and the reference's functions (RowStr, HandS). -/
import Derived.Handed
import Derived.HandedShaped
import Derived.Shelf.Vars
import Derived.Test.YtlimlolciekimaaGreatDoorRows
import Derived.Test.YtlimlolciekimaaGreatDoorQRb
namespace Go.Proofs.YtlimlolciekimaaGreatDoor
set_option maxHeartbeats 1600000
open Go.ChangeShapes Go.WideShapes Go.ChangeAt Go.RowKit
set_option linter.unusedVariables false
set_option maxRecDepth 10000
def Zqz (l:List ByteArray) (w:World) (e:Ending) (w':World):Prop :=
 ∃ A c,e=.returned (.slice A l.length c)∧Zaa w' w.heap.size w'.heap.size A c l∧Below w.heap.size w w'
def Zoo (l:List ByteArray) (b:Bool) (w:World) (e:Ending) (w':World):Prop :=
 ∃ A c,e=.returned (.tuple #[.slice A l.length c,.bool b])∧Zaa w' w.heap.size w'.heap.size A c l∧Below w.heap.size w w'
theorem Zgm (w:World) (lo hi:Nat):Zaa w lo hi none 0 []:=⟨World.ownsRow_nil w _ _ _,fun k hk=>by cases hk⟩
theorem Zg1 (l:List ByteArray) (A1 A2:Option Addr) (c1 c2 lo1 hi1 lo2 hi2:Nat) (w:World) (h1:Zaa w lo1 hi1 A1 c1 l) (h2:Zaa w lo2 hi2 A2 c2 l) (hok:OkS l 16777216) :
  Calls Tryz.prog 19 #[.slice A1 l.length c1,.slice A2 l.length c2] w fun e w'=>e=.returned (.bool true)∧Below w.heap.size w w':=by
 refine (Zkh w.heap.size A1 A2 _ _ c1 c2 l l w (h1.rd hok.1 hok.2) (h2.rd hok.1 hok.2) (Nat.le_refl _)).mono ?_
 rintro e w' ⟨rfl,hb⟩
 refine ⟨?_,hb⟩
 unfold Zdu
 rw [decide_eq_true rfl]
theorem ZhZ (l:List ByteArray) (A:Option Addr) (c lo hi:Nat) (k:Int) (w:World) (h:Zaa w lo hi A c l) (hk0:0≤k) (hk1:k≤4503599627370496) (hok:OkS l 16777216) :
  Calls Tryz.prog 22 #[.slice A l.length c,.int .i64 k] w fun e w'=>e=.returned (.int .i64 (k+(l.length:Int)))∧MkS w' lo hi A c k l.length∧Zcv lo hi w w':=by
 refine (ZiW lo A _ c _ k w h.row hk0 hk1 hok.1).mono ?_
 rintro e w' ⟨rfl,ho,hg⟩
 exact ⟨rfl,⟨ho,h.top⟩,Zcv.of_grown h.row (by decide) hg (Nat.le_refl _) h.top⟩
theorem ZeW (A:Option Addr) (c n lo hi:Nat) (k:Int) (w:World) (h:MkS w lo hi A c k n) (hk0:0≤k) (hk1:k≤4503599627370496) (hn:n≤16777216) :
  Calls Tryz.prog 23 #[.slice A n c,.int .i64 k] w fun e w'=>e=.returned (.int .i64 (k+(n:Int)))∧Below w.heap.size w w' :=
 ZiQ w.heap.size A n c k w (Zal.of_own h.row) (Nat.le_refl _) hk0 hk1 hn
open Go
variable {H:Type} {enc:TypeId×Value→H}
theorem ZfU {a:Assume} {C:Checked} {os:Os} {f:FuncId} {fn:Func} {s:ChangeSpec} {conds:List PathCond} {apart fresh handsOn again:Bool} {X:World→Array Value→Prop}
  (hX:∀ (w w':World) (args:Array Value),w.heap=w'.heap→X w args→X w' args)
  (own:ownKnob C.prog.godebug=none) (started:os.Started) (noInit:C.prog.inits.idxOf? f=none) (hfn:C.prog.funcs[f]?=some fn)
  (witness:∃ (w:World) (tape:Tape) (i:Input),w.os=os∧(w.forCall tape i).Shaped C.prog∧i.vars=[]∧Input.okWide C.prog (w.forCall tape i) .any w.heap.size f i ∧
   ((s.pre enc C.prog fn conds apart (w.forCall tape i).memory i.args∧X (w.forCall tape i).memory i.args)∧sizedMet enc C.prog fn (OpenSpec.ofChange s) apart (w.forCall tape i).memory i.args)∧a.holds C.prog (lone (Frame.enter C.prog f i.args .normal) [] (w.forCall tape i)))
  (contract:∀ (W:World) (base:Nat) (args:Array Value) (ds gs:List (DataW H)) (before:List MemPlace),
   (∀ (j:Nat) t v,fn.params[j]?=some t→args[j]?=some v→Value.okWide C.prog W .any base t v) →
   DataW.Whole enc C.prog fn.params.toList s.vars apart W args.toList ds gs before →
   W.ShapedOpen C.prog→X W args →
   Calls C.prog f args W fun e W'=>∃ v,e=.returned v∧s.post enc C.prog fn apart fresh handsOn again W args v W') :
  ReturnsInHanded a C os f .any (fun w args=>(s.pre enc C.prog fn conds apart w args∧X w args)∧sizedMet enc C.prog fn (OpenSpec.ofChange s) apart w args) (s.post enc C.prog fn apart fresh handsOn again):=by
 refine returnsInHanded_of_calls own started noInit witness ?_
 intro w tape i _ hsh _ hok hpre hholds
 obtain ⟨_,_,_,g,hg,_,_,_,_,hval⟩:=hok
 obtain rfl:g=fn:=Option.some.inj (hg.symm.trans hfn)
 obtain ⟨⟨⟨ds,gs,before,hw,_⟩,hx⟩,_⟩:=hpre
 refine (contract (w.forCall tape i) w.heap.size i.args ds gs before hval (DataW.Whole.of_heap (w':=w.forCall tape i) (by rfl) hw) hsh (hX _ _ _ (by rfl) hx)).mono fun e W' ⟨v,he,hp⟩=>?_
 subst he
 exact ChangeSpec.post_blind hp
end Go.Proofs.YtlimlolciekimaaGreatDoor
