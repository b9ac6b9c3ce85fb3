/- FnTop: in every history the card closes flat; for all bytes; no condition. -/
import Derived.Deep.DeepCutAuto
import Derived.Deep.Slices
import Derived.Lib.SmallJoins
import Derived.SliceStrings
import Derived.Test.YtlimlolciekimaaGreatRows
import Derived.Test.YtlimlolciekimaaGreatQPWTop
import Derived.Test.YtlimlolciekimaaGreatQPu
import Derived.Test.YtlimlolciekimaaGreatQPb
namespace Go.Proofs.YtlimlolciekimaaGreat.fnTop
open Go.ChangeShapes Go.WideShapes Go.ChangeAt Go.RowKit Go.Joins Go.WideMaps Go.WideElems
set_option linter.unusedVariables false
set_option maxRecDepth 10000
set_option maxHeartbeats 800000 in
theorem bigTop (A:Option Addr) (n c:Nat) (w:World) (h:n≤9223372036854775807) (hb:1048576<n) :
  Calls Tryz.prog 3 #[.slice A n c] w fun e w'=>e=.returned (.bool true)∧Below w.heap.size w w':=by
 have hd:decide (1048576<n)=true:=by simpa using hb
 go_enter Tryz.func3,Tryz.ntmps3
 go_wp2_with (go_at_call 4;refine (l_big _ _ _ _ h).mono ?_;rw [hd];rintro e w' ⟨rfl,rfl⟩)
 go_ret
 exact ⟨rfl,Below.refl _ _⟩
set_option maxRecDepth 100000 in
theorem lifted (os:Os) (started:os.Started) (H:Type) (enc:TypeId×Value→H) :
  ReturnsInHanded {} Tryz.checked os 3 .any (Rows.fnTopSpec.pre6 enc Tryz.prog Tryz.f3 Rows.fnTopRow.domain false) (Rows.fnTopSpec.post enc Tryz.prog Tryz.f3 false true false false):=by
 refine returnsInHanded_of_change_shaped (C:=Tryz.checked) own0 started (by kernel_rfl) Tryz.func3
  (ChangeSpec.witness6 (enc:=enc) (C:=Tryz.checked) false ⟨#[],#[.slice none 0 0],[]⟩ 8 (by kernel_rfl) (by kernel_rfl) (by kernel_rfl) (by kernel_rfl)) ?_
 intro W base args ds gs before hval0 hW hcnd _ hsh _
 have hval:∀ (j:Nat) t v,Tryz.f3.params[j]?=some t→args[j]?=some v→Value.okWide Tryz.prog W .any base t v:=hval0
 have hW':=hW
 obtain ⟨p,q,hA0,hV,_,hfz,hnd⟩:=hW
 have hA:DataW.TrodAll enc Tryz.prog W 0 (fun _=>true) true Tryz.f3.params.toList args.toList ds p:=hA0
 rw [Tryz.params3] at hA hval
 obtain ⟨v0,vs0,d0,ds0,p0,q0,hargs,hds,_,h0,r0⟩:=trodAll_cons hA
 obtain ⟨rfl,rfl,_⟩:=trodAll_nil r0
 obtain rfl:args=#[v0]:=by cases args;simp_all
 have fin:Calls Tryz.prog 3 #[v0] W fun e w'=>e=.returned (.bool true)∧Below W.heap.size W w':=by
  obtain ⟨A,c,bs,rfl,hR,hm,hbd⟩:=open_code (hval 0 22 v0 rfl rfl) h0
  by_cases hb:1048576<bs.length
  case pos=>exact bigTop A bs.length c W (by unfold maxLen at hm;omega) hb
  exact walkTop A c bs W ⟨hR,by omega,hbd⟩
 refine fin.mono fun e W' ⟨he,hb⟩=>?_
 subst he
 exact ⟨_,rfl,post_law hW' rfl (by rw [Tryz.params3];intro t ht;simp at ht;subst ht;exact ⟨by kernel_rfl,of_decide_eq_true (by kernel_rfl)⟩) rfl (by
  intro _;subst hds;rfl) hb⟩
end Go.Proofs.YtlimlolciekimaaGreat.fnTop
