/- FnExactIsReplay: the program's IsReplay returns what the reference's returns, for all arguments; no condition. -/
import Derived.Deep.DeepCutAuto
import Derived.Deep.RegionHeld3
import Derived.Deep.Slices
import Derived.Lib.SmallJoins
import Derived.SliceStrings
import Derived.Test.YtdddglihomchfaaGreatRows
import Derived.Test.YtdddglihomchfaaGreatQEWIsReplay
import Derived.Test.YtdddglihomchfaaGreatQEb
namespace Go.Proofs.YtdddglihomchfaaGreat.fnExactIsReplay
open Go.ChangeShapes Go.WideShapes Go.ChangeAt Go.RowKit Go.Joins Go.WideMaps Go.WideElems
open Go.ChangeMaps (open_string shut_string)
set_option linter.unusedVariables false
set_option maxRecDepth 100000 in
set_option maxHeartbeats 1600000 in
theorem longIsReplay_ln (d1 f1:Int) (ss1:List ByteArray) (d2 f2:Int) (ss2:List ByteArray) (st:List PStep) (P:List PItem) (pp:List PPaper) (m:Int) (A1 A2 A3 A4 A5:Option Addr) (c1 c2 c3 c4 c5:Nat) (Aa:Option Addr) (ca:Nat) (la:List PAct) (An:Option Addr) (cn:Nat) (ln:List Int) (w:World) (hRW:RawWork w w.heap.size A1 A2 A3 A4 A5 (PDraft.mk d1 f1 ss1 d2 f2 ss2 st) P pp) (hRa:Reads w w.heap.size 3 Aa la.length (la.flatMap actCells)) (hma:la.length≤maxLen) (hRn:Reads w w.heap.size 1 An ln.length (ints ln)) (hmn:ln.length≤maxLen) (hz:¬ln.length≤1048576) :
  Calls Tryz.prog 14 #[.agg #[.int .i64 d1,.int .i64 f1,.slice A1 ss1.length c1,.int .i64 d2,.int .i64 f2,.slice A2 ss2.length c2,.slice A3 st.length c3,.slice A4 P.length c4,.slice A5 pp.length c5,.int .i64 m],.slice Aa la.length ca,.slice An ln.length cn] w fun e w'=>e=.returned (.bool true)∧Below w.heap.size w w':=by
 unfold maxLen at hma
 unfold maxLen at hmn
 go_enter Tryz.func14,Tryz.ntmps14
 go_wp2
 go_ret
 exact ⟨rfl,bel⟩
set_option maxRecDepth 100000 in
set_option maxHeartbeats 1600000 in
theorem bigIsReplay_1 (d1 f1:Int) (ss1:List ByteArray) (d2 f2:Int) (ss2:List ByteArray) (st:List PStep) (P:List PItem) (pp:List PPaper) (m:Int) (A1 A2 A3 A4 A5:Option Addr) (c1 c2 c3 c4 c5:Nat) (Aa:Option Addr) (ca:Nat) (la:List PAct) (An:Option Addr) (cn:Nat) (ln:List Int) (w:World) (hRW:RawWork w w.heap.size A1 A2 A3 A4 A5 (PDraft.mk d1 f1 ss1 d2 f2 ss2 st) P pp) (hRa:Reads w w.heap.size 3 Aa la.length (la.flatMap actCells)) (hma:la.length≤maxLen) (hRn:Reads w w.heap.size 1 An ln.length (ints ln)) (hmn:ln.length≤maxLen) (hss_ln:ln.length≤1048576) (hz:szW (PDraft.mk d1 f1 ss1 d2 f2 ss2 st) P pp (1048576)<0) :
  Calls Tryz.prog 14 #[.agg #[.int .i64 d1,.int .i64 f1,.slice A1 ss1.length c1,.int .i64 d2,.int .i64 f2,.slice A2 ss2.length c2,.slice A3 st.length c3,.slice A4 P.length c4,.slice A5 pp.length c5,.int .i64 m],.slice Aa la.length ca,.slice An ln.length cn] w fun e w'=>e=.returned (.bool true)∧Below w.heap.size w w':=by
 unfold maxLen at hma
 unfold maxLen at hmn
 go_enter Tryz.func14,Tryz.ntmps14
 go_wp2_with fail
 refine (l_szWorkshop d1 f1 ss1 d2 f2 ss2 st P pp m w.heap.size A1 A2 A3 A4 A5 c1 c2 c3 c4 c5 (1048576) _ (by simp;try omega) (hRW.below (by first|exact Below.refl _ _|exact bel)) (by omega) (by omega)).mono ?_
 rintro e w1 ⟨rfl,qaa⟩
 have qca:Below w.heap.size w w1:=bel
 obtain ⟨qfa,qga⟩:=bcell qaa
 have qba:w.heap.size<w1.heap.size:=(by have hzz:=qaa.size;(try simp at hzz);omega);have qea:=Nat.le_of_lt qba
 go_wp2
 go_ret
 exact ⟨rfl,bel⟩
set_option maxRecDepth 100000 in
set_option maxHeartbeats 1600000 in
theorem bigIsReplay_2 (d1 f1:Int) (ss1:List ByteArray) (d2 f2:Int) (ss2:List ByteArray) (st:List PStep) (P:List PItem) (pp:List PPaper) (m:Int) (A1 A2 A3 A4 A5:Option Addr) (c1 c2 c3 c4 c5:Nat) (Aa:Option Addr) (ca:Nat) (la:List PAct) (An:Option Addr) (cn:Nat) (ln:List Int) (w:World) (hRW:RawWork w w.heap.size A1 A2 A3 A4 A5 (PDraft.mk d1 f1 ss1 d2 f2 ss2 st) P pp) (hRa:Reads w w.heap.size 3 Aa la.length (la.flatMap actCells)) (hma:la.length≤maxLen) (hRn:Reads w w.heap.size 1 An ln.length (ints ln)) (hmn:ln.length≤maxLen) (hss_ln:ln.length≤1048576) (hz1:0≤szW (PDraft.mk d1 f1 ss1 d2 f2 ss2 st) P pp (1048576)) (hz:szActs la (szW (PDraft.mk d1 f1 ss1 d2 f2 ss2 st) P pp (1048576))<0) :
  Calls Tryz.prog 14 #[.agg #[.int .i64 d1,.int .i64 f1,.slice A1 ss1.length c1,.int .i64 d2,.int .i64 f2,.slice A2 ss2.length c2,.slice A3 st.length c3,.slice A4 P.length c4,.slice A5 pp.length c5,.int .i64 m],.slice Aa la.length ca,.slice An ln.length cn] w fun e w'=>e=.returned (.bool true)∧Below w.heap.size w w':=by
 unfold maxLen at hma
 unfold maxLen at hmn
 go_enter Tryz.func14,Tryz.ntmps14
 go_wp2_with fail
 refine (l_szWorkshop d1 f1 ss1 d2 f2 ss2 st P pp m w.heap.size A1 A2 A3 A4 A5 c1 c2 c3 c4 c5 (1048576) _ (by simp;try omega) (hRW.below (by first|exact Below.refl _ _|exact bel)) (by omega) (by omega)).mono ?_
 rintro e w1 ⟨rfl,qaa⟩
 have qca:Below w.heap.size w w1:=bel
 obtain ⟨qfa,qga⟩:=bcell qaa
 have qba:w.heap.size<w1.heap.size:=(by have hzz:=qaa.size;(try simp at hzz);omega);have qea:=Nat.le_of_lt qba
 have qka:szW (PDraft.mk d1 f1 ss1 d2 f2 ss2 st) P pp (1048576)≤1048576:=szW_ub _ _ _ _ (by omega)
 go_wp2_with fail
 refine (l_szActS la Aa ca (szW (PDraft.mk d1 f1 ss1 d2 f2 ss2 st) P pp (1048576)) _ (by omega) (by omega) (by omega)).mono ?_
 rintro e w2 ⟨rfl,qda⟩
 have qha:Below w.heap.size w w2:=bel
 obtain ⟨qla,qma⟩:=bcell qda
 have qja:=qda.size;have qia:w.heap.size<w2.heap.size:=(by omega)
 go_wp2
 go_ret
 exact ⟨rfl,bel⟩
set_option maxRecDepth 100000 in
theorem lifted (os:Os) (started:os.Started) (H:Type) (enc:TypeId×Value→H) :
  ReturnsInHanded {} Tryz.checked os 14 .any (Rows.fnExactIsReplaySpec.pre6 enc Tryz.prog Tryz.f14 Rows.fnExactIsReplayRow.domain false) (Rows.fnExactIsReplaySpec.post enc Tryz.prog Tryz.f14 false true false false):=by
 refine returnsInHanded_of_change_shaped (C:=Tryz.checked) own0 started (by kernel_rfl) Tryz.func14
  (ChangeSpec.witness6 (enc:=enc) (C:=Tryz.checked) false ⟨#[],#[.agg #[.int .i64 0,.int .i64 0,.slice none 0 0,.int .i64 0,.int .i64 0,.slice none 0 0,.slice none 0 0,.slice none 0 0,.slice none 0 0,.int .i64 0],.slice none 0 0,.slice none 0 0],[]⟩ 8 (by kernel_rfl) (by kernel_rfl) (by kernel_rfl) (by kernel_rfl)) ?_
 intro W base args ds gs before hval0 hW hcnd _ hsh _
 have hval:∀ (j:Nat) t v,Tryz.f14.params[j]?=some t→args[j]?=some v→Value.okWide Tryz.prog W .any base t v:=hval0
 have hW':=hW
 obtain ⟨p,q,hA0,hV,_,hfz,hnd⟩:=hW
 have hA:DataW.TrodAll enc Tryz.prog W 0 (fun _=>true) true Tryz.f14.params.toList args.toList ds p:=hA0
 rw [Tryz.params14] at hA hval
 obtain ⟨v0,vs0,d0,ds0,p0,q0,hargs,hds,_,h0,r0⟩:=trodAll_cons hA
 obtain ⟨v1,vs1,d1,ds1,p1,q1,rfl,rfl,_,h1,r1⟩:=trodAll_cons r0
 obtain ⟨v2,vs2,d2,ds2,p2,q2,rfl,rfl,_,h2,r2⟩:=trodAll_cons r1
 obtain ⟨rfl,rfl,_⟩:=trodAll_nil r2
 obtain rfl:args=#[v0,v1,v2]:=by cases args;simp_all
 have fin:Calls Tryz.prog 14 #[v0,v1,v2] W fun e w'=>e=.returned (.bool true)∧Below W.heap.size W w':=by
  obtain ⟨d1,f1,ss1,d2,f2,ss2,st,P,pp,m,A1,A2,A3,A4,A5,c1,c2,c3,c4,c5,rfl,hRW⟩:=open_work (hval 0 31 v0 rfl rfl) h0
  obtain ⟨Aa,ca,la,rfl,hRa,hma⟩:=open_acts (hval 1 80 v1 rfl rfl) h1
  obtain ⟨An,cn,ln,rfl,hRn,hmn⟩:=open_intsR (hval 2 82 v2 rfl rfl) h2
  by_cases hss_ln:ln.length≤1048576
  case neg=>exact longIsReplay_ln d1 f1 ss1 d2 f2 ss2 st P pp m A1 A2 A3 A4 A5 c1 c2 c3 c4 c5 Aa ca la An cn ln W hRW hRa hma hRn hmn hss_ln
  by_cases hz1:szW (PDraft.mk d1 f1 ss1 d2 f2 ss2 st) P pp (1048576)<0
  case pos=>exact bigIsReplay_1 d1 f1 ss1 d2 f2 ss2 st P pp m A1 A2 A3 A4 A5 c1 c2 c3 c4 c5 Aa ca la An cn ln W hRW hRa hma hRn hmn hss_ln hz1
  have hz1':0≤szW (PDraft.mk d1 f1 ss1 d2 f2 ss2 st) P pp (1048576):=by omega
  have hub1:szW (PDraft.mk d1 f1 ss1 d2 f2 ss2 st) P pp (1048576)≤1048576:=szW_ub _ _ _ _ (by omega)
  obtain ⟨hSW,hnW⟩:=work_of_sz hRW (by omega) hz1'
  by_cases hz2:szActs la (szW (PDraft.mk d1 f1 ss1 d2 f2 ss2 st) P pp (1048576))<0
  case pos=>exact bigIsReplay_2 d1 f1 ss1 d2 f2 ss2 st P pp m A1 A2 A3 A4 A5 c1 c2 c3 c4 c5 Aa ca la An cn ln W hRW hRa hma hRn hmn hss_ln hz1' hz2
  have hz2':0≤szActs la (szW (PDraft.mk d1 f1 ss1 d2 f2 ss2 st) P pp (1048576)):=by omega
  have hub2:szActs la (szW (PDraft.mk d1 f1 ss1 d2 f2 ss2 st) P pp (1048576))≤1048576:=szActs_ub _ _ (by omega)
  obtain ⟨hSa,hna⟩:=acts_of_sz hRa (by omega) hz2'
  exact walkIsReplay d1 f1 ss1 d2 f2 ss2 st P pp m A1 A2 A3 A4 A5 c1 c2 c3 c4 c5 Aa ca la An cn ln W hSW hnW hSa hna hRn hss_ln hz1' hz2'
 refine fin.mono fun e W' ⟨he,hb⟩=>?_
 subst he
 exact ⟨_,rfl,post_law hW' rfl (by rw [Tryz.params14];intro t ht;simp at ht;first|(rcases ht with rfl|rfl|rfl|rfl <;> exact ⟨by kernel_rfl,of_decide_eq_true (by kernel_rfl)⟩)|(rcases ht with rfl|rfl|rfl <;> exact ⟨by kernel_rfl,of_decide_eq_true (by kernel_rfl)⟩)|(rcases ht with rfl|rfl <;> exact ⟨by kernel_rfl,of_decide_eq_true (by kernel_rfl)⟩)|(subst ht;exact ⟨by kernel_rfl,of_decide_eq_true (by kernel_rfl)⟩)) rfl (by
  intro _;subst hds;rfl) hb⟩
end Go.Proofs.YtdddglihomchfaaGreat.fnExactIsReplay
