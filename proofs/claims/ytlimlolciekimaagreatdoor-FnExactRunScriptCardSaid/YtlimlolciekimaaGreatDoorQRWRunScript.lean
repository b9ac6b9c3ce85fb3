/- The walk of FnExactRunScript, for arguments that are not too large. -/
import Derived.Deep.DeepCutAuto
import Derived.Deep.RegionHeld3
import Derived.Deep.Slices
import Derived.Lib.SmallJoins
import Derived.SliceStrings
import Derived.Test.YtlimlolciekimaaGreatDoorRows
import Derived.Test.YtlimlolciekimaaGreatDoorQRav
import Derived.Test.YtlimlolciekimaaGreatDoorQRaw
import Derived.Test.YtlimlolciekimaaGreatDoorQRas
import Derived.Test.YtlimlolciekimaaGreatDoorQRb
namespace Go.Proofs.YtlimlolciekimaaGreatDoor.fnExactRunScript
set_option maxHeartbeats 1600000
open Go.ChangeShapes Go.WideShapes Go.ChangeAt Go.RowKit Go.Joins Go.WideMaps Go.WideElems
open Go.ChangeMaps (open_string shut_string)
set_option linter.unusedVariables false
set_option maxRecDepth 100000 in
set_option maxHeartbeats 16000000 in
theorem ZiR (tx:ByteArray) (w:World) (hE:ZiS w) (hM:Zld w) (hss_tx:tx.size≤1048576) :
  Calls Tryz.prog 8 #[.string tx] w fun e w'=>e=.returned (.bool true)∧Below w.heap.size w w':=by
 have hrok:OkS (Zdp tx).1 1048576:=by
  exact Zm9 tx
 have hspec:=fun (W:World)=>Zj7 tx W (by omega)
 have himpl:=fun (W:World) (h9:Below w.heap.size w W)=>Zkg tx W (hE.below h9) (hM.below h9) (by omega)
 generalize hgen0:((Zdp tx).1)=xr at hspec himpl hrok
 generalize hgen1:((Zdp tx).2)=rb at hspec himpl hrok
 clear hgen0 hgen1
 have HSPEC:=Zk hspec
 have HIMPL:=Zk himpl
 clear hspec himpl
 have HOKR:=Zk hrok
 clear hrok
 go_enter Tryz.func8,Tryz.ntmps8
 have qeb:Below w.heap.size w w:=Below.refl _ _
 have qnb:=qeb.size
 go_wp2_with fail
 refine (Ze HSPEC _ ).mono ?_
 rintro e w1 ⟨A_w0,c_w0,rfl,hon,qfb⟩
 have qoa:Below w.heap.size w w1:=qeb.trans (Below.mono qfb qnb)
 have qgb:=qoa.size
 have qtb:w.heap.size≤w1.heap.size:=qfb.size
 clear qeb qnb qfb
 have qpa:=hon
 clear hon
 go_wp2_with fail
 refine (Ze HIMPL _ (by assumption)).mono ?_
 rintro e w2 ⟨A_g0,c_g0,rfl,hon,qma⟩
 have qda:=qpa.below qma
 have qqa:Below w.heap.size w w2:=qoa.trans (Below.mono qma qgb)
 have qhb:=qqa.size
 have qub:w1.heap.size≤w2.heap.size:=qma.size
 clear qpa qoa qgb qma
 have qea:=hon
 clear hon
 go_wp2_with fail
 refine (Zg1 xr _ _ _ _ _ _ _ _ _ qea qda ((Ze HOKR).more (by omega))).mono ?_
 rintro e w3 ⟨rfl,qja⟩
 have qra:=qda.below qja
 have qsa:=qea.below qja
 have qta:Below w.heap.size w w3:=qqa.trans (Below.mono qja qhb)
 have qpb:=qta.size
 have qvb:w2.heap.size≤w3.heap.size:=qja.size
 clear qda qea qqa qhb qja
 go_wp2_with fail
 refine (ZhZ xr _ _ _ _ (1) _ qsa (by have qaa:xr.length≤1048576:=(Ze HOKR).1;omega) (by have qaa:xr.length≤1048576:=(Ze HOKR).1;omega) ((Ze HOKR).more (by omega))).mono ?_
 rintro e w4 ⟨rfl,qob,qna⟩
 have qua:=qra.within qna (by omega)
 have qva:Below w.heap.size w w4:=qta.trans (qna.below (by omega) (by omega))
 have qib:=qva.size
 have qwb:w3.heap.size≤w4.heap.size:=qna.size
 clear qra qsa qta qpb qna
 have qfa:=qob
 clear qob
 go_wp2_with fail
 refine (ZeW _ _ _ _ _ (1) _ qfa (by have qaa:xr.length≤1048576:=(Ze HOKR).1;omega) (by have qaa:xr.length≤1048576:=(Ze HOKR).1;omega) (by have qaa:xr.length≤1048576:=(Ze HOKR).1;omega)).mono ?_
 rintro e w5 ⟨rfl,qka⟩
 have qwa:=qua.below qka
 have qxa:=qfa.below qka
 have qya:Below w.heap.size w w5:=qva.trans (Below.mono qka qib)
 have qjb:=qya.size
 have qxb:w4.heap.size≤w5.heap.size:=qka.size
 clear qua qfa qva qib qka
 go_wp2_with fail
 refine (Ze HIMPL _ (by assumption)).mono ?_
 rintro e w6 ⟨A_h0,c_h0,rfl,hon,qla⟩
 have qga:=qwa.below qla
 have qza:=qxa.below qla
 have qab:Below w.heap.size w w6:=qya.trans (Below.mono qla qjb)
 have qkb:=qab.size
 have qyb:w5.heap.size≤w6.heap.size:=qla.size
 clear qwa qxa qya qjb qla
 have qha:=hon
 clear hon
 go_wp2_with fail
 refine (Zg1 xr _ _ _ _ _ _ _ _ _ qha qga ((Ze HOKR).more (by omega))).mono ?_
 rintro e w7 ⟨rfl,qba⟩
 have qbb:=qga.below qba
 have qia:=qza.below qba
 have qcb:=qha.below qba
 have qdb:Below w.heap.size w w7:=qab.trans (Below.mono qba qkb)
 have qlb:=qdb.size
 have qzb:w6.heap.size≤w7.heap.size:=qba.size
 clear qga qza qha qab qkb qba
 go_wp2_with fail
 refine (ZeW _ _ _ _ _ (1) _ qia (by have qaa:xr.length≤1048576:=(Ze HOKR).1;omega) (by have qaa:xr.length≤1048576:=(Ze HOKR).1;omega) (by have qaa:xr.length≤1048576:=(Ze HOKR).1;omega)).mono ?_
 rintro e w8 ⟨rfl,qca⟩
 have qqb:=qbb.below qca
 have qrb:=qia.below qca
 have qsb:=qcb.below qca
 have qmb:Below w.heap.size w w8:=qdb.trans (Below.mono qca qlb)
 have qac:=qmb.size
 have qbc:w7.heap.size≤w8.heap.size:=qca.size
 clear qbb qia qcb qdb qlb qca
 go_wp2
 go_ret
 exact ⟨rfl,qmb⟩
end Go.Proofs.YtlimlolciekimaaGreatDoor.fnExactRunScript
