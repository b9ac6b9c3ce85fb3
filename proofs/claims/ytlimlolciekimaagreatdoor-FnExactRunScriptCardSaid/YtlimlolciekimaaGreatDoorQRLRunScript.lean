/- FnExactRunScript: the program's RunScript returns what the reference's returns, for all arguments, where the listed variables hold what the program's text lays in them (the tied card). -/
import Derived.Handed
import Derived.LaidLaws
import Derived.Lay
import Derived.Lib.LaidTab
import Derived.Lib.LaidU8
import Derived.SevenTiedAt
import Derived.Stop.Joined
import Derived.Stop.LaidErr
import Derived.Test.YtlimlolciekimaaGreatDoorCards
import Derived.Test.YtlimlolciekimaaGreatDoorTie
import Derived.Test.YtlimlolciekimaaGreatDoorRows
import Derived.Test.YtlimlolciekimaaGreatDoorQRWRunScript
import Derived.Test.YtlimlolciekimaaGreatDoorQRb
import Derived.Test.YtlimlolciekimaaGreatDoorQRas
namespace Go.Proofs.YtlimlolciekimaaGreatDoor.fnExactRunScript
open Go.ChangeShapes Go.WideShapes Go.ChangeAt Go.WideMaps Go.WideElems Go.RowKit
open Go.ChangeMaps (open_string shut_string)
set_option linter.unusedVariables false
theorem ZkE : "*" ++ "errors.errorString" = "*errors.errorString" := by decide
theorem ZmE (u : TypeId) (h : Tryz.prog.typeName? 3 u = some "*errors.errorString") : u = 284 :=
 typeName_ptr_named (nm := "errors.errorString") (by rw [ZkE]; kernel_rfl) (by kernel_rfl) (by decide) u (by rw [ZkE]; exact h)
theorem ZoK {W : World} (h : laidMet Tryz.prog Rows.fnExactRunScriptRow.laid W) : ∃ t p, W.var? Tryz.prog "strconv.ErrSyntax" = some #[.iface t p] := by
 obtain ⟨a0, s0, hv0, -, -, -⟩ := laid_sentinel (h.tail.tail.tail.tail.tail) (show Tryz.prog.globalNamed "strconv.ErrSyntax" = some 3 by kernel_rfl) (show (Tryz.prog.globals[3]?).map (·.type) = some 144 by kernel_rfl) Tryz.underlying144 ZmE Tryz.underlying284 Tryz.underlying286 rfl rfl Tryz.underlying9 (by kernel_rfl) (by kernel_rfl)
 exact ⟨_,_,hv0⟩
theorem ZoJ {W : World} (h : laidMet Tryz.prog Rows.fnExactRunScriptRow.laid W) : ∃ t p, W.var? Tryz.prog "strconv.ErrRange" = some #[.iface t p] := by
 obtain ⟨a0, s0, hv0, -, -, -⟩ := laid_sentinel (h.tail.tail.tail.tail) (show Tryz.prog.globalNamed "strconv.ErrRange" = some 4 by kernel_rfl) (show (Tryz.prog.globals[4]?).map (·.type) = some 144 by kernel_rfl) Tryz.underlying144 ZmE Tryz.underlying284 Tryz.underlying286 rfl rfl Tryz.underlying9 (by kernel_rfl) (by kernel_rfl)
 exact ⟨_,_,hv0⟩
theorem ZoI {W : World} (h : laidMet Tryz.prog Rows.fnExactRunScriptRow.laid W) : Lib.TabIs Tryz.prog W "strings.asciiSpace" .u8 Lib.asciiSpaceTab := by
 have hr : Lib.VarReads Tryz.prog W "strings.asciiSpace" Rows.laid_strings_asciiSpace := Lib.laidMet.reads h (.tail _ (.tail _ (.tail _ (.tail _ (.tail _ (.tail _ (.tail _ (.head _))))))))
 obtain ⟨g,t,cs,fuel,p,hg,ht,hv,hd⟩:=hr
 have h1 : Tryz.prog.globalNamed "strings.asciiSpace" = some 0 := by kernel_rfl
 obtain rfl:=Option.some.inj (h1.symm.trans hg)
 have h2:(Tryz.prog.globals[0]?).map (·.type)=some 181:=by kernel_rfl
 obtain rfl:=Option.some.inj (h2.symm.trans ht)
 have h3:(Rows.laid_strings_asciiSpace:DataW Unit)=Lib.tabData .u8 Lib.asciiSpaceTab:=by kernel_rfl
 rw [h3] at hd
 have hcs:=Lib.cells_of_tab Tryz.underlying181 Tryz.underlying5 (by kernel_rfl) (by kernel_rfl) hd
 show World.var? _ _ _=_
 rw [hv,← hcs]
theorem ZoQ {W : World} (h : laidMet Tryz.prog Rows.fnExactRunScriptRow.laid W) : Lib.TabIs Tryz.prog W "internal/strconv.uint64pow10" .u64 Lib.pow10Tab := by
 have hr : Lib.VarReads Tryz.prog W "internal/strconv.uint64pow10" Rows.laid_internal_strconv_uint64pow10 := Lib.laidMet.reads h (.tail _ (.tail _ (.head _)))
 obtain ⟨g,t,cs,fuel,p,hg,ht,hv,hd⟩:=hr
 have h1 : Tryz.prog.globalNamed "internal/strconv.uint64pow10" = some 5 := by kernel_rfl
 obtain rfl:=Option.some.inj (h1.symm.trans hg)
 have h2:(Tryz.prog.globals[5]?).map (·.type)=some 268:=by kernel_rfl
 obtain rfl:=Option.some.inj (h2.symm.trans ht)
 have h3:(Rows.laid_internal_strconv_uint64pow10:DataW Unit)=Lib.tabData .u64 Lib.pow10Tab:=by kernel_rfl
 rw [h3] at hd
 have hcs:=Lib.cells_of_tab Tryz.underlying268 Tryz.underlying231 (by kernel_rfl) (by kernel_rfl) hd
 show World.var? _ _ _=_
 rw [hv,← hcs]
theorem Zo1 {W:World} (h0:laidMetH Tryz.prog Rows.fnExactRunScriptRow.laid W):ZiS W:=by
 have h:=h0
 rw [MakeChecks.laidMetH_plain _ _ _ (by kernel_rfl)] at h
 exact ⟨ZoK h,ZoJ h,ZoI h,ZoQ h⟩
set_option maxRecDepth 100000 in
set_option maxHeartbeats 1600000 in
theorem Zgz (tx:ByteArray) (w:World) (hsm_tx:tx.size≤maxLen) (hz:¬tx.size≤1048576) :
  Calls Tryz.prog 8 #[.string tx] w fun e w'=>e=.returned (.bool true)∧Below w.heap.size w w':=by
 unfold maxLen at hsm_tx
 go_enter Tryz.func8,Tryz.ntmps8
 go_wp2
 go_ret
 exact ⟨rfl,bel⟩
theorem ZoO {W:World} (h:W.ShapedOpen Tryz.prog):Zld W:=cell_of_shapedOpen_int (zero:=#[.int .i64 0]) (t:=3) h (of_decide_eq_true (by kernel_rfl)) (by kernel_rfl) rfl (by kernel_rfl) (by kernel_rfl) Tryz.underlying3
set_option maxRecDepth 100000 in
theorem lifted (os:Os) (started:os.Started) (H:Type) (enc:TypeId×Value→H) :
  ReturnsInHanded {} Tryz.checked os 8 .any (fun w args=>(Rows.fnExactRunScriptSpec.pre enc Tryz.prog Tryz.f8 [] false w args∧laidMetH Tryz.prog Rows.fnExactRunScriptRow.laid w)∧sizedMet enc Tryz.prog Tryz.f8 (OpenSpec.ofChange Rows.fnExactRunScriptSpec) false w args)
   (Rows.fnExactRunScriptSpec.post enc Tryz.prog Tryz.f8 false true false false):=by
 refine ZfU (C:=Tryz.checked) (X:=fun w _=>laidMetH Tryz.prog Rows.fnExactRunScriptRow.laid w) (fun _ _ _ hh h=>h.of_heap hh) Zqq started (by kernel_rfl) Tryz.func8
  (ChangeSpec.witness_shaped (enc:=enc) (C:=Tryz.checked) (os:=os) (X:=fun w _=>laidMetH Tryz.prog Rows.fnExactRunScriptRow.laid w) false (World.laidAll Tryz.prog os Rows.fnExactRunScriptRow.laid) #[.string ByteArray.empty] 8 (World.laidAll_os _ _ _)
   (World.shaped_of_ZipB (by kernel_rfl) (by kernel_rfl)) (by kernel_rfl) (by kernel_rfl) (by kernel_rfl)
   (by rw [MakeChecks.laidMetH_plain _ _ _ (by kernel_rfl)];exact laidMet_laidAll _ (by kernel_rfl) (by kernel_rfl))) ?_
 intro W base args ds gs before hval0 hW hsh hL
 have hval:∀ (j:Nat) t v,Tryz.f8.params[j]?=some t→args[j]?=some v→Value.okWide Tryz.prog W .any base t v:=hval0
 have hW':=hW
 obtain ⟨p,q,hA0,hV,_,_,_⟩:=hW
 have hA:DataW.TrodAll enc Tryz.prog W 0 (fun _=>true) true Tryz.f8.params.toList args.toList ds p:=hA0
 rw [Tryz.params8] at hA hval
 obtain ⟨v0,vs0,d0,ds0,p0,q0,hargs,hds,_,h0,r0⟩:=trodAll_cons hA
 obtain ⟨rfl,rfl,_⟩:=trodAll_nil r0
 obtain rfl:args=#[v0]:=by cases args;simp_all
 have hE:=Zo1 hL
 have hM:=ZoO hsh
 have fin:Calls Tryz.prog 8 #[v0] W fun e w'=>e=.returned (.bool true)∧Below W.heap.size W w':=by
  obtain ⟨tx,rfl,_,_,hsm_tx⟩:=open_string Tryz.underlying9 (hval 0 9 v0 rfl rfl) h0
  by_cases hss_tx:tx.size≤1048576
  case neg=>exact Zgz tx W hsm_tx hss_tx
  exact ZiR tx W hE hM hss_tx
 refine fin.mono fun e W' ⟨he,hb⟩=>?_
 subst he
 exact ⟨_,rfl,ZnY hW' rfl (by rw [Tryz.params8];intro t ht;simp at ht;subst ht;exact ⟨by kernel_rfl,of_decide_eq_true (by kernel_rfl)⟩) rfl (by
  intro _;subst hds;rfl) hb⟩
end Go.Proofs.YtlimlolciekimaaGreatDoor.fnExactRunScript
