/- FnActParts: a scenario can be stopped after any act and continued; for all bytes, where the listed variables hold what the program's text lays in them (the tied card). -/
import Derived.Handed
import Derived.LaidLaws
import Derived.Lay
import Derived.Lib.LaidTab
import Derived.Lib.LaidU8
import Derived.SevenTiedAt
import Derived.Stop.Joined
import Derived.Stop.LaidErr
import Derived.Test.YtlimlolciekimaaGreatDoorCards
import Derived.Test.YtlimlolciekimaaGreatDoorTie
import Derived.Test.YtlimlolciekimaaGreatDoorRows
import Derived.Test.YtlimlolciekimaaGreatDoorQUWActParts
import Derived.Test.YtlimlolciekimaaGreatDoorQUu
import Derived.Test.YtlimlolciekimaaGreatDoorQUb
namespace Go.Proofs.YtlimlolciekimaaGreatDoor.fnActParts
open Go.ChangeShapes Go.WideShapes Go.ChangeAt Go.WideMaps Go.WideElems Go.RowKit
open Go.ChangeMaps (open_string shut_string)
set_option linter.unusedVariables false
theorem tab_pow {W : World} (h : laidMet Tryz.prog Rows.fnActPartsRow.laid W) : Lib.TabIs Tryz.prog W "internal/strconv.uint64pow10" .u64 Lib.pow10Tab := by
 have hr : Lib.VarReads Tryz.prog W "internal/strconv.uint64pow10" Rows.laid_internal_strconv_uint64pow10 := Lib.laidMet.reads h (.tail _ (.tail _ (.head _)))
 obtain ⟨g,t,cs,fuel,p,hg,ht,hv,hd⟩:=hr
 have h1 : Tryz.prog.globalNamed "internal/strconv.uint64pow10" = some 5 := by kernel_rfl
 obtain rfl:=Option.some.inj (h1.symm.trans hg)
 have h2:(Tryz.prog.globals[5]?).map (·.type)=some 268:=by kernel_rfl
 obtain rfl:=Option.some.inj (h2.symm.trans ht)
 have h3:(Rows.laid_internal_strconv_uint64pow10:DataW Unit)=Lib.tabData .u64 Lib.pow10Tab:=by kernel_rfl
 rw [h3] at hd
 have hcs:=Lib.cells_of_tab Tryz.underlying268 Tryz.underlying231 (by kernel_rfl) (by kernel_rfl) hd
 show World.var? _ _ _=_
 rw [hv,← hcs]
theorem errs_of {W:World} (h0:laidMetH Tryz.prog Rows.fnActPartsRow.laid W):Tab W:=by
 have h:=h0
 rw [MakeChecks.laidMetH_plain _ _ _ (by kernel_rfl)] at h
 exact tab_pow h
set_option maxHeartbeats 800000 in
theorem big_law (A:Option Addr) (n c:Nat) (w:World) (h:n≤9223372036854775807) (hb:1048576<n) :
  Calls Tryz.prog 3 #[.slice A n c] w fun e w'=>e=.returned (.bool true)∧Below w.heap.size w w':=by
 have hd:decide (1048576<n)=true:=by simpa using hb
 go_enter Tryz.func3,Tryz.ntmps3
 go_wp2_with (go_at_call 9;refine (l_big _ _ _ _ h).mono ?_;rw [hd];rintro e w' ⟨rfl,rfl⟩)
 go_ret
 exact ⟨rfl,Below.refl _ _⟩
set_option maxRecDepth 100000 in
theorem lifted (os:Os) (started:os.Started) (H:Type) (enc:TypeId×Value→H) :
  ReturnsInHanded {} Tryz.checked os 3 .any (fun w args=>(Rows.fnActPartsSpec.pre enc Tryz.prog Tryz.f3 [] false w args∧laidMetH Tryz.prog Rows.fnActPartsRow.laid w)∧sizedMet enc Tryz.prog Tryz.f3 (OpenSpec.ofChange Rows.fnActPartsSpec) false w args)
   (Rows.fnActPartsSpec.post enc Tryz.prog Tryz.f3 false true false false):=by
 refine returnsInHanded_of_change_and (C:=Tryz.checked) (X:=fun w _=>laidMetH Tryz.prog Rows.fnActPartsRow.laid w) (fun _ _ _ hh h=>h.of_heap hh) own0 started (by kernel_rfl) Tryz.func3
  (ChangeSpec.witness_shaped (enc:=enc) (C:=Tryz.checked) (os:=os) (X:=fun w _=>laidMetH Tryz.prog Rows.fnActPartsRow.laid w) false (World.laidAll Tryz.prog os Rows.fnActPartsRow.laid) #[.slice none 0 0] 8 (World.laidAll_os _ _ _)
   (World.shaped_of_ZipB (by kernel_rfl) (by kernel_rfl)) (by kernel_rfl) (by kernel_rfl) (by kernel_rfl)
   (by rw [MakeChecks.laidMetH_plain _ _ _ (by kernel_rfl)];exact laidMet_laidAll _ (by kernel_rfl) (by kernel_rfl))) ?_
 intro W base args ds gs before hval0 hW _ _ hL _
 have hval:∀ (j:Nat) t v,Tryz.f3.params[j]?=some t→args[j]?=some v→Value.okWide Tryz.prog W .any base t v:=hval0
 have hW':=hW
 obtain ⟨p,q,hA0,hV,_,_,_⟩:=hW
 have hA:DataW.TrodAll enc Tryz.prog W 0 (fun _=>true) true Tryz.f3.params.toList args.toList ds p:=hA0
 rw [Tryz.params3] at hA hval
 obtain ⟨v0,vs0,d0,ds0,p0,q0,hargs,hds,_,h0,r0⟩:=trodAll_cons hA
 obtain ⟨rfl,rfl,_⟩:=trodAll_nil r0
 obtain rfl:args=#[v0]:=by cases args;simp_all
 have hE:=errs_of hL
 have fin:Calls Tryz.prog 3 #[v0] W fun e w'=>e=.returned (.bool true)∧Below W.heap.size W w':=by
  obtain ⟨A,c,bs,rfl,hR,hm,hbd⟩:=open_code (hval 0 22 v0 rfl rfl) h0
  by_cases hb:1048576<bs.length
  case pos=>exact big_law A bs.length c W (by unfold maxLen at hm;omega) hb
  exact walkActParts A c bs W hE ⟨hR,by omega,hbd⟩
 refine fin.mono fun e W' ⟨he,hb⟩=>?_
 subst he
 exact ⟨_,rfl,post_law hW' rfl (by rw [Tryz.params3];intro t ht;simp at ht;subst ht;exact ⟨by kernel_rfl,of_decide_eq_true (by kernel_rfl)⟩) rfl (by
  intro _;subst hds;rfl) hb⟩
end Go.Proofs.YtlimlolciekimaaGreatDoor.fnActParts
