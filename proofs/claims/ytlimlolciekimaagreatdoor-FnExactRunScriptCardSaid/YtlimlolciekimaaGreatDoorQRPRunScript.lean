/- FnExactRunScript: the program's RunScript returns what the reference's returns, for all arguments, where the listed variables hold what the program's text lays in them: the row, and its tied card. -/
import Derived.Deep.DeepCutAuto
import Derived.Deep.RegionHeld3
import Derived.Deep.Slices
import Derived.JoinedOf
import Derived.KernelRfl
import Derived.Lib.SmallJoins
import Derived.SliceStrings
import Derived.Test.YtlimlolciekimaaGreatDoorRows
import Derived.Test.YtlimlolciekimaaGreatDoorQRLRunScript
import Derived.Test.YtlimlolciekimaaGreatDoorQRb
namespace Go.Proofs.YtlimlolciekimaaGreatDoor.fnExactRunScript
open Go
set_option linter.unusedVariables false
theorem ZpU:(fun (P:Program) (f:FuncId) (fn:Func) (s:ChangeSpec) (c:OpenClaim)=>(c.wf (OpenSpec.ofChange s):Bool)) Tryz.prog 8 Tryz.f8 Rows.fnExactRunScriptSpec Rows.fnExactRunScriptRow=true:=by kernel_rfl
theorem Zqb:(fun (P:Program) (f:FuncId) (fn:Func) (s:ChangeSpec) (c:OpenClaim)=>(laidOutB P:Bool)) Tryz.prog 8 Tryz.f8 Rows.fnExactRunScriptSpec Rows.fnExactRunScriptRow=true:=by kernel_rfl
theorem Zp4:(fun (P:Program) (f:FuncId) (fn:Func) (s:ChangeSpec) (c:OpenClaim)=>(mapsRowed P:Bool)) Tryz.prog 8 Tryz.f8 Rows.fnExactRunScriptSpec Rows.fnExactRunScriptRow=true:=by kernel_rfl
theorem Zp3:(fun (P:Program) (f:FuncId) (fn:Func) (s:ChangeSpec) (c:OpenClaim)=>(fn.params.all (P.readableRec ·):Bool)) Tryz.prog 8 Tryz.f8 Rows.fnExactRunScriptSpec Rows.fnExactRunScriptRow=true:=by kernel_rfl
theorem ZpZ:(fun (P:Program) (f:FuncId) (fn:Func) (s:ChangeSpec) (c:OpenClaim)=>(namedTie P c.named s.vars:Bool)) Tryz.prog 8 Tryz.f8 Rows.fnExactRunScriptSpec Rows.fnExactRunScriptRow=true:=by kernel_rfl
theorem Zp6:(fun (P:Program) (f:FuncId) (fn:Func) (s:ChangeSpec) (c:OpenClaim)=>((c.stops==[]):Bool)) Tryz.prog 8 Tryz.f8 Rows.fnExactRunScriptSpec Rows.fnExactRunScriptRow=true:=by kernel_rfl
theorem Zqm:(fun (P:Program) (f:FuncId) (fn:Func) (s:ChangeSpec) (c:OpenClaim)=>((P.stops==[]):Bool)) Tryz.prog 8 Tryz.f8 Rows.fnExactRunScriptSpec Rows.fnExactRunScriptRow=true:=by kernel_rfl
theorem ZpV:(fun (P:Program) (f:FuncId) (fn:Func) (s:ChangeSpec) (c:OpenClaim)=>((c.knobs==[]):Bool)) Tryz.prog 8 Tryz.f8 Rows.fnExactRunScriptSpec Rows.fnExactRunScriptRow=true:=by kernel_rfl
theorem ZpY:(fun (P:Program) (f:FuncId) (fn:Func) (s:ChangeSpec) (c:OpenClaim)=>((P.stopKnobs==[]):Bool)) Tryz.prog 8 Tryz.f8 Rows.fnExactRunScriptSpec Rows.fnExactRunScriptRow=true:=by kernel_rfl
theorem Zph:(fun (P:Program) (f:FuncId) (fn:Func) (s:ChangeSpec) (c:OpenClaim)=>((c.inPlace==P.inPlace f):Bool)) Tryz.prog 8 Tryz.f8 Rows.fnExactRunScriptSpec Rows.fnExactRunScriptRow=true:=by kernel_rfl
theorem Zpt:(fun (P:Program) (f:FuncId) (fn:Func) (s:ChangeSpec) (c:OpenClaim)=>((c.unfollowed==P.unfollowed f):Bool)) Tryz.prog 8 Tryz.f8 Rows.fnExactRunScriptSpec Rows.fnExactRunScriptRow=true:=by kernel_rfl
theorem ZpK:(fun (P:Program) (f:FuncId) (fn:Func) (s:ChangeSpec) (c:OpenClaim)=>((c.recurses==P.recurses f):Bool)) Tryz.prog 8 Tryz.f8 Rows.fnExactRunScriptSpec Rows.fnExactRunScriptRow=true:=by kernel_rfl
theorem ZpL:(fun (P:Program) (f:FuncId) (fn:Func) (s:ChangeSpec) (c:OpenClaim)=>((c.named==P.varsNamed f):Bool)) Tryz.prog 8 Tryz.f8 Rows.fnExactRunScriptSpec Rows.fnExactRunScriptRow=true:=by kernel_rfl
theorem ZpG:(fun (P:Program) (f:FuncId) (fn:Func) (s:ChangeSpec) (c:OpenClaim)=>((c.maps==(fn.params.toList++s.plain.varTypes P).any (P.mapsRec ·)):Bool)) Tryz.prog 8 Tryz.f8 Rows.fnExactRunScriptSpec Rows.fnExactRunScriptRow=true:=by kernel_rfl
theorem ZpH:(fun (P:Program) (f:FuncId) (fn:Func) (s:ChangeSpec) (c:OpenClaim)=>((c.ifaces==(fn.params.toList++s.plain.varTypes P).any (P.ifacesRec ·)):Bool)) Tryz.prog 8 Tryz.f8 Rows.fnExactRunScriptSpec Rows.fnExactRunScriptRow=true:=by kernel_rfl
theorem Zpj:(fun (P:Program) (f:FuncId) (fn:Func) (s:ChangeSpec) (c:OpenClaim)=>((c.mapsOut==P.mapsAmong fn.resultTypes.toList):Bool)) Tryz.prog 8 Tryz.f8 Rows.fnExactRunScriptSpec Rows.fnExactRunScriptRow=true:=by kernel_rfl
theorem Zpz:(fun (P:Program) (f:FuncId) (fn:Func) (s:ChangeSpec) (c:OpenClaim)=>((c.loops==(fn.params.toList++s.plain.varTypes P).any (P.loopsFrom ·)):Bool)) Tryz.prog 8 Tryz.f8 Rows.fnExactRunScriptSpec Rows.fnExactRunScriptRow=true:=by kernel_rfl
theorem ZpJ:(fun (P:Program) (f:FuncId) (fn:Func) (s:ChangeSpec) (c:OpenClaim)=>((c.wideKeys==(fn.params.toList++s.plain.varTypes P++fn.resultTypes.toList).any (P.wideKeysFrom ·)):Bool)) Tryz.prog 8 Tryz.f8 Rows.fnExactRunScriptSpec Rows.fnExactRunScriptRow=true:=by kernel_rfl
theorem ZpC:(fun (P:Program) (f:FuncId) (fn:Func) (s:ChangeSpec) (c:OpenClaim)=>(s.vars.all (P.varReadable ·):Bool)) Tryz.prog 8 Tryz.f8 Rows.fnExactRunScriptSpec Rows.fnExactRunScriptRow=true:=by kernel_rfl
theorem ZpM:(fun (P:Program) (f:FuncId) (fn:Func) (s:ChangeSpec) (c:OpenClaim)=>(fn.resultTypes.all (fun t=>P.readableRec t&&decide (t<P.types.size)):Bool)) Tryz.prog 8 Tryz.f8 Rows.fnExactRunScriptSpec Rows.fnExactRunScriptRow=true:=by kernel_rfl
theorem Zpx:(fun (P:Program) (f:FuncId) (fn:Func) (s:ChangeSpec) (c:OpenClaim)=>((c.ifacesOut==fn.resultTypes.toList.any (P.ifacesRec ·)):Bool)) Tryz.prog 8 Tryz.f8 Rows.fnExactRunScriptSpec Rows.fnExactRunScriptRow=true:=by kernel_rfl
theorem Zpv:(fun (P:Program) (f:FuncId) (fn:Func) (s:ChangeSpec) (c:OpenClaim)=>((c.loopsOut==fn.resultTypes.toList.any (P.loopsFrom ·)):Bool)) Tryz.prog 8 Tryz.f8 Rows.fnExactRunScriptSpec Rows.fnExactRunScriptRow=true:=by kernel_rfl
theorem Zpf:(fun (P:Program) (f:FuncId) (fn:Func) (s:ChangeSpec) (c:OpenClaim)=>((c.plainKeys==P.plainKeys):Bool)) Tryz.prog 8 Tryz.f8 Rows.fnExactRunScriptSpec Rows.fnExactRunScriptRow=true:=by kernel_rfl
theorem Zpw:(fun (P:Program) (f:FuncId) (fn:Func) (s:ChangeSpec) (c:OpenClaim)=>(c.shortTexts.isNone:Bool)) Tryz.prog 8 Tryz.f8 Rows.fnExactRunScriptSpec Rows.fnExactRunScriptRow=true:=by kernel_rfl
theorem ZpQ:(fun (P:Program) (f:FuncId) (fn:Func) (s:ChangeSpec) (c:OpenClaim)=>(P.stopsHeard:Bool)) Tryz.prog 8 Tryz.f8 Rows.fnExactRunScriptSpec Rows.fnExactRunScriptRow=true:=by kernel_rfl
theorem ZpA:(fun (P:Program) (f:FuncId) (fn:Func) (s:ChangeSpec) (c:OpenClaim)=>(P.mayEnter:Bool)) Tryz.prog 8 Tryz.f8 Rows.fnExactRunScriptSpec Rows.fnExactRunScriptRow=true:=by kernel_rfl
theorem Zpq:(fun (P:Program) (f:FuncId) (fn:Func) (s:ChangeSpec) (c:OpenClaim)=>((c.lifted==P.liftsFinal):Bool)) Tryz.prog 8 Tryz.f8 Rows.fnExactRunScriptSpec Rows.fnExactRunScriptRow=true:=by kernel_rfl
theorem Zpo:(fun (P:Program) (f:FuncId) (fn:Func) (s:ChangeSpec) (c:OpenClaim)=>((P.make==some c.make):Bool)) Tryz.prog 8 Tryz.f8 Rows.fnExactRunScriptSpec Rows.fnExactRunScriptRow=true:=by kernel_rfl
theorem Zpm:(fun (P:Program) (f:FuncId) (fn:Func) (s:ChangeSpec) (c:OpenClaim)=>((c.kinds==(if c.domain.isEmpty then [] else fn.params.toList.map fun t=>match P.underlying t with|some (.int k)=>some k|_=>none)):Bool)) Tryz.prog 8 Tryz.f8 Rows.fnExactRunScriptSpec Rows.fnExactRunScriptRow=true:=by kernel_rfl
theorem Zpn:(fun (P:Program) (f:FuncId) (fn:Func) (s:ChangeSpec) (c:OpenClaim)=>((c.pinned==c.pinnedBy):Bool)) Tryz.prog 8 Tryz.f8 Rows.fnExactRunScriptSpec Rows.fnExactRunScriptRow=true:=by kernel_rfl
theorem Zps:(fun (P:Program) (f:FuncId) (fn:Func) (s:ChangeSpec) (c:OpenClaim)=>((c.veiled==(fn.params.toList++s.plain.varTypes P++fn.resultTypes.toList).any (P.veiledRec ·)):Bool)) Tryz.prog 8 Tryz.f8 Rows.fnExactRunScriptSpec Rows.fnExactRunScriptRow=true:=by kernel_rfl
theorem ZpF:(fun (P:Program) (f:FuncId) (fn:Func) (s:ChangeSpec) (c:OpenClaim)=>(c.veiledFits P fn.params.toList (fn.params.toList++s.plain.varTypes P++fn.resultTypes.toList):Bool)) Tryz.prog 8 Tryz.f8 Rows.fnExactRunScriptSpec Rows.fnExactRunScriptRow=true:=by kernel_rfl
theorem ZaA {a b:Bool} (ha:a=true) (hb:b=true):(a&&b)=true:=by rw [ha,hb];rfl
set_option maxRecDepth 100000 in
theorem closed:joinedFacts Tryz.prog 8 Tryz.f8 Rows.fnExactRunScriptSpec Rows.fnExactRunScriptRow=true:=by
 unfold joinedFacts
 try dsimp only
 have h1:=ZpU
 dsimp only at h1
 have h2:=Zqb
 dsimp only at h2
 have h3:=Zp4
 dsimp only at h3
 have h4:=Zp3
 dsimp only at h4
 have h5:=ZpZ
 dsimp only at h5
 have h6:=Zp6
 dsimp only at h6
 have h7:=Zqm
 dsimp only at h7
 have h8:=ZpV
 dsimp only at h8
 have h9:=ZpY
 dsimp only at h9
 have h10:=Zph
 dsimp only at h10
 have h11:=Zpt
 dsimp only at h11
 have h12:=ZpK
 dsimp only at h12
 have h13:=ZpL
 dsimp only at h13
 have h14:=ZpG
 dsimp only at h14
 have h15:=ZpH
 dsimp only at h15
 have h16:=Zpj
 dsimp only at h16
 have h17:=Zpz
 dsimp only at h17
 have h18:=ZpJ
 dsimp only at h18
 have h19:=ZpC
 dsimp only at h19
 have h20:=ZpM
 dsimp only at h20
 have h21:=Zpx
 dsimp only at h21
 have h22:=Zpv
 dsimp only at h22
 have h23:=Zpf
 dsimp only at h23
 have h24:=Zpw
 dsimp only at h24
 have h25:=ZpQ
 dsimp only at h25
 have h26:=ZpA
 dsimp only at h26
 have h27:=Zpq
 dsimp only at h27
 have h28:=Zpo
 dsimp only at h28
 have h29:=Zpm
 dsimp only at h29
 have h30:=Zpn
 dsimp only at h30
 have h31:=Zps
 dsimp only at h31
 have h32:=ZpF
 dsimp only at h32
 exact (ZaA (ZaA (ZaA (ZaA (ZaA (ZaA (ZaA (ZaA (ZaA (ZaA (ZaA (ZaA (ZaA (ZaA (ZaA (ZaA (ZaA (ZaA (ZaA (ZaA (ZaA (ZaA (ZaA (ZaA (ZaA (ZaA (ZaA (ZaA (ZaA (ZaA (ZaA h1 h2) h3) h4) h5) h6) h7) h8) h9) h10) h11) h12) h13) h14) h15) h16) h17) h18) h19) h20) h21) h22) h23) h24) h25) h26) h27) h28) h29) h30) h31) h32)
theorem named:Tryz.checked.prog.funcNamed Rows.fnExactRunScriptRow.func=some 8:=by kernel_rfl
theorem inst:Tryz.f8.isInstance Tryz.prog Rows.fnExactRunScriptRow.origin Rows.fnExactRunScriptRow.targs:=of_decide_eq_true (by kernel_rfl)
theorem wrap:Tryz.f8.isWrapper Tryz.prog Rows.fnExactRunScriptRow.wrapper Rows.fnExactRunScriptRow.mainSum:=by unfold Func.isWrapper;first|(rw [if_pos (by decide +kernel)];kernel_rfl)|(rw [if_neg (by decide +kernel)];exact ⟨rfl,rfl⟩)
theorem over:Rows.fnExactRunScriptRow.holds Tryz.pinned (OpenSpec.ofChange Rows.fnExactRunScriptSpec) :=
 OpenClaim.holds_of_wide 8 Tryz.f8 rfl rfl rfl rfl rfl rfl rfl ⟨rfl,rfl,rfl,rfl,rfl⟩ rfl rfl rfl rfl rfl named Tryz.func8 closed
  inst wrap
  (fun os started H enc _=>lifted os started H enc)
theorem proved:Rows.FnExactRunScriptCardSaid :=
 Claim7.holds_tied_plain_at .later [] [.data,.data,.data,.data,.sentinel,.sentinel,.listed,.data,.pinned] true Rows.fnExactRunScriptCard.stood.harness true over (fun _ h=>by cases h) (by kernel_rfl) (fun _ h=>by cases h) fnExactRunScript_row_tie rfl ⟨rfl,rfl⟩ (by kernel_rfl) rfl
  (fun f fn hf hfn=>by
   obtain rfl:f=8:=Option.some.inj ((show Tryz.prog.funcNamed Rows.fnExactRunScriptRow.func=some 8 by kernel_rfl).symm.trans hf)|>.symm
   obtain rfl:fn=Tryz.f8:=(Option.some.inj (Tryz.func8.symm.trans hfn)).symm
   exact ⟨by kernel_rfl,fun j t ht=>by
    rw [Tryz.params8] at ht
    have hm:t∈[9]:=by simpa using Array.mem_of_getElem? ht
    have hall:([9].all fun u=>!Tryz.prog.wantsStandIn u)=true:=by kernel_rfl
    exact (show Tryz.prog.wantsStandIn t=false by simpa using List.all_eq_true.1 hall t hm)⟩)
  (by kernel_rfl)
end Go.Proofs.YtlimlolciekimaaGreatDoor.fnExactRunScript
