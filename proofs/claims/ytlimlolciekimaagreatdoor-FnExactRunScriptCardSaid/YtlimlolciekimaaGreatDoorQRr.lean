/- Contracts of the program's and the reference's functions (Run1, RunPlain, Run2b, Run2i, Run2s). -/
import Derived.Deep.DeepCutAuto
import Derived.Deep.RegionHeld3
import Derived.Deep.RegionLaw
import Derived.Test.YtlimlolciekimaaGreatDoorRows
import Derived.Test.YtlimlolciekimaaGreatDoorQRo
import Derived.Test.YtlimlolciekimaaGreatDoorQRq
import Derived.Test.YtlimlolciekimaaGreatDoorQRn
import Derived.Test.YtlimlolciekimaaGreatDoorQRWork9i
import Derived.Test.YtlimlolciekimaaGreatDoorQRf
import Derived.Test.YtlimlolciekimaaGreatDoorQRWork9s
namespace Go.Proofs.YtlimlolciekimaaGreatDoor
set_option maxHeartbeats 1600000
set_option linter.unusedVariables false
def Zcn (W:Zh) (xs:List Int):List Zbw→Zh×List Int
 |[]=>(W,xs)
 |x :: l=>Zcn (Zs W x.k x.a x.b).1 (xs++[(Zs W x.k x.a x.b).2]) l
def ZaB (W:Zh) (l:List Zbw):Zh×List Int:=if Zp W=true∧l.length≤40 then Zcn W [] l else (W,[])
theorem Zhk {W:Zh} {xs:List Int} {k:Nat} {l:List Zbw} (h:k<l.length):Zcn W xs (l.drop k) =
  Zcn (Zs W l[k].k l[k].a l[k].b).1 (xs++[(Zs W l[k].k l[k].a l[k].b).2]) (l.drop (k+1)):=by
 rw [List.drop_eq_getElem_cons h];rfl
theorem Zh1 {W:Zh} {xs:List Int} {k:Nat} {l:List Zbw} (h:l.length≤k):Zcn W xs (l.drop k)=(W,xs):=by
 rw [List.drop_eq_nil_of_le h];rfl
theorem Zns (l:List Zbw):∀ (W:Zh) (xs:List Int),ZaI W.D W.P W.pp 1048576→ZaI (Zcn W xs l).1.D (Zcn W xs l).1.P (Zcn W xs l).1.pp 1048576:=by
 induction l with
 |nil=>intro W xs h;exact h
 |cons x l ih=>intro W xs h;exact ih _ _ (Ze3 W _ _ _ h)
theorem ZlM (l:List Zbw):∀ (W:Zh) (xs:List Int),(Zcn W xs l).2.length=xs.length+l.length:=by
 induction l with
 |nil=>intro W xs;simp [Zcn]
 |cons x l ih=>intro W xs;simp only [Zcn];rw [ih];simp;omega
theorem Znf (W:Zh) (l:List Zbw) (h:ZaI W.D W.P W.pp 1048576):ZaI (ZaB W l).1.D (ZaB W l).1.P (ZaB W l).1.pp 1048576:=by
 unfold ZaB
 split
 ·exact Zns l W [] h
 ·exact h
theorem Zh3 {W:Zh} {l:List Zbw} (h:Zp W=false):ZaB W l=(W,[]):=by unfold ZaB;rw [h];simp
theorem ZhG {W:Zh} {l:List Zbw} (h:¬l.length≤40):ZaB W l=(W,[]):=by unfold ZaB;rw [if_neg (fun q=>h q.2)]
theorem ZfB {W:Zh} {l:List Zbw} (h1:Zp W=true) (h:l.length≤40):ZaB W l=Zcn W [] l:=by unfold ZaB;rw [if_pos ⟨h1,h⟩]
theorem ZmJ {W:Zh} {k a b:Int} (h:Zp W=true):Zp (ZcB W k a b).1=true:=by
 have hm:=Zcw h
 have hs:∀ s,Zp (Zai W s).1=true:=by
  intro s
  unfold Zai
  split
  ·rename_i q
   have h2:=Zgr h (Zg3 q.2.2)
   rw [Za3] at h2 ⊢
   exact ⟨h2.1,h2.2.1,h2.2.2.1,h2.2.2.2.1,by show 0≤W.m - 1;omega,by show W.m - 1≤1000000;omega⟩
  ·exact h
 unfold ZcB
 split
 ·exact hs _
 ·split
  ·exact hs _
  ·split
   ·unfold Zad
    split
    ·rename_i q;exact Zgr h (Zfr q.2)
    ·exact h
   ·split
    ·unfold ZaX
     split
     ·rename_i q;exact q.2.2
     ·exact h
    ·split
     ·unfold ZaC
      split
      ·rename_i q;exact Zf5 h (Zi8 q.2)
      ·exact h
     ·split
      ·unfold Zat
       split
       ·rename_i q
        obtain ⟨h1,h2,h3,h4,h5⟩:=q
        have h0:=Za5.1 h1
        obtain ⟨q1,q2⟩:=Zis h4
        exact Zju h q1 (by rw [ZdS];exact q2) (by omega) (by omega)
       ·exact h
      ·unfold Zah
       split
       ·rename_i q;exact Zf5 h (Zg4 q.2)
       ·exact h
theorem ZhO {W:Zh} {k a b:Int} (h:Zp W=true):Zp (Zs W k a b).1=true:=by
 unfold Zs
 split
 ·split
  ·exact h
  ·exact ZmJ h
 ·exact h
theorem ZkW (l:List Zbw):∀ (W:Zh) (xs:List Int),Zp W=true→Zp (Zcn W xs l).1=true:=by
 induction l with
 |nil=>intro W xs h;exact h
 |cons x l ih=>intro W xs h;exact ih _ _ (ZhO h)
theorem ZkF {W:Zh} {l:List Zbw} (h:Zp W=true):Zp (ZaB W l).1=true:=by
 unfold ZaB
 split
 ·exact ZkW l W [] h
 ·exact h
def Zqr (W:Zh) (l:List Zbw) (ns:List Int):Bool:=Zp W&&(decide (l.length≤40)&&decide ((ZaB W l).2=ns))
open Go.ChangeShapes Go.WideShapes Go.ChangeAt Go.RowKit
set_option linter.unusedSimpArgs false
set_option maxRecDepth 10000
theorem Zea {W:Zh} {xs:List Int} {q:Zh×List Int} {w w':World} {e:Ending} (h:q=(W,xs)) (hu:Zia W.D.d1 W.D.f1 W.D.ss1 W.D.d2 W.D.f2 W.D.ss2 W.D.st W.P W.pp W.m xs w e w'):Zia q.1.D.d1 q.1.D.f1 q.1.D.ss1 q.1.D.d2 q.1.D.f2 q.1.D.ss2 q.1.D.st q.1.P q.1.pp q.1.m q.2 w e w':=by subst h;exact hu
theorem Zkj (w:World) (lo hi:Nat):ZdI w lo hi none 0 []:=⟨World.ownsRow_nil w _ _ _,fun k hk=>by cases hk⟩
theorem Zhs {w:World} {g:Nat} (h:w.heap[g]?=some (.cells #[] 3 (0,0))):ZdI w g (g+1) (some ⟨g,0,none⟩) 0 [] :=
 ⟨⟨rfl,.inr ⟨g,0,#[],rfl,Nat.le_refl _,h,Nat.le_refl _,by unfold maxLen;omega,rfl,rfl⟩⟩,fun k hk=>by simp [Value.ownBlock] at hk;omega⟩
theorem ZdI.pin {w:World} {lo k c:Nat} {A:Option Addr} {l:List Int} (ho:w.ownsRow lo 3 1 (.slice A l.length c) l.length (Zd7 l)) (h:(Value.slice A l.length c).ownBlock=some k):ZdI w k (k+1) A c l :=
 ⟨ZnQ ho (fun j hj=>by rw [h] at hj;injection hj with hj;omega),fun j hj=>by rw [h] at hj;injection hj with hj;omega⟩
theorem ZdI.appended {w0 w w':World} {lo hi n:Nat} {A:Option Addr} {c:Nat} {l m:List Int} {v':Value} (ho:ZdI w lo hi A c l) {b:Nat} (h2:w'.ownsRow b 3 1 v' n (Zd7 m)) (hn:n=m.length) (hpos:0<n) (hat:v'.ownBlock=(Value.slice A l.length c).ownBlock∨v'.ownBlock=some w0.heap.size) :
  ∃ A' c' k,v'=.slice A' m.length c'∧ZdI w' k (k+1) A' c' m∧(lo≤k∧k<hi∨k=w0.heap.size)∧k<w'.heap.size:=by
 subst hn
 obtain ⟨A',c',rfl⟩:=Zbg h2
 obtain ⟨g,cap,hv,hbg,hglt⟩:=h2.form hpos
 have hg:(Value.slice A' m.length c').ownBlock=some g:=by injection hv with e1;subst e1;rfl
 refine ⟨A',c',g,rfl,ZdI.pin h2 hg,?_,hglt⟩
 rcases hat with h|h
 ·left
  rw [hg] at h
  exact ⟨(ho.row.lt g h.symm).1,ho.top g h.symm⟩
 ·right
  rw [hg] at h
  injection h
theorem Zmd (x:Int):∀ u∈[Value.int .i64 x],u.oneCell'=true:=by intro u hu;simp at hu;subst hu;rfl
theorem ZhN (l:List Int) (x:Int):Zd7 l++[Value.int .i64 x]=Zd7 (l++[x]):=by simp [Zd7]
set_option maxHeartbeats 3200000 in
theorem Zm4 (d1 f1:Int) (ss1:List ByteArray) (d2 f2:Int) (ss2:List ByteArray) (st:List Zv) (P:List Zr) (pp:List Zt) (m:Int) (la:List Zbw) (B:Nat) (A1 A2 A3 A4 A5:Option Addr) (c1 c2 c3 c4 c5:Nat) (Aa:Option Addr) (ca:Nat) (w:World) (hS:ZaF w B A1 A2 A3 A4 c4 A5 ⟨d1,f1,ss1,d2,f2,ss2,st⟩ P pp) (hX:ZgC w B Aa la.length la) (hB:B≤w.heap.size) (hok:ZaI (Zd.mk d1 f1 ss1 d2 f2 ss2 st) P pp 1048576) :
  Calls Tryz.prog 12 #[.agg #[.int .i64 d1,.int .i64 f1,.slice A1 ss1.length c1,.int .i64 d2,.int .i64 f2,.slice A2 ss2.length c2,.slice A3 st.length c3,.slice A4 P.length c4,.slice A5 pp.length c5,.int .i64 m],.slice Aa la.length ca] w (Zia (ZaB (Zh.mk (Zd.mk d1 f1 ss1 d2 f2 ss2 st) P pp m) la).1.D.d1 (ZaB (Zh.mk (Zd.mk d1 f1 ss1 d2 f2 ss2 st) P pp m) la).1.D.f1 (ZaB (Zh.mk (Zd.mk d1 f1 ss1 d2 f2 ss2 st) P pp m) la).1.D.ss1 (ZaB (Zh.mk (Zd.mk d1 f1 ss1 d2 f2 ss2 st) P pp m) la).1.D.d2 (ZaB (Zh.mk (Zd.mk d1 f1 ss1 d2 f2 ss2 st) P pp m) la).1.D.f2 (ZaB (Zh.mk (Zd.mk d1 f1 ss1 d2 f2 ss2 st) P pp m) la).1.D.ss2 (ZaB (Zh.mk (Zd.mk d1 f1 ss1 d2 f2 ss2 st) P pp m) la).1.D.st (ZaB (Zh.mk (Zd.mk d1 f1 ss1 d2 f2 ss2 st) P pp m) la).1.P (ZaB (Zh.mk (Zd.mk d1 f1 ss1 d2 f2 ss2 st) P pp m) la).1.pp (ZaB (Zh.mk (Zd.mk d1 f1 ss1 d2 f2 ss2 st) P pp m) la).1.m (ZaB (Zh.mk (Zd.mk d1 f1 ss1 d2 f2 ss2 st) P pp m) la).2 w):=by
 have hnX:=hX.nb
 cases hw1:Zp (Zh.mk (Zd.mk d1 f1 ss1 d2 f2 ss2 st) P pp m)
 case false =>
  have HR4:=Lib.hid (Zh3 (l:=la) hw1)
  have HW1:=Lib.hid hw1
  clear hw1 hok
  generalize ZaB (Zh.mk (Zd.mk d1 f1 ss1 d2 f2 ss2 st) P pp m) la=R at *
  go_enter Tryz.func12,Tryz.ntmps12
  go_wp2_with fail
  generalize e_:(World.alloc _ _)=w1
  symm at e_
  have k_a:=hkc e_ (Zb (bnk w.heap.size) _)
  have k_r:=hkc e_ (bnk (w.heap.size+1))
  have hX_:Zj w w1:=by rw [e_];exact boxy
  have hb_:Below w.heap.size w w1:=by rw [e_];exact bel
  have c_w1:=hX_.size
  clear e_ hX_
  refine (Za0 d1 f1 ss1 d2 f2 ss2 st P pp m B A1 A2 A3 A4 A5 c1 c2 c3 c4 c5 w1 (hS.below (hb_.mono hB)) (Nat.le_trans hB hb_.size)).mono ?_
  rw [HW1.out]
  rintro e w2 ⟨rfl,b_⟩
  replace k_a:=Za k_a b_
  replace k_r:=Za k_r b_
  have c_w2:=b_.size
  replace hb_:=hb_.trans (b_.mono hb_.size)
  clear b_
  obtain ⟨x0a,x1a,x2a,x3a,x4a,x5a,x6a,x7a,x8a,x9a,xla⟩:=Zq k_a
  go_wp2_with fail
  clear x0a x1a x2a x3a x4a x5a x6a x7a x8a x9a xla
  refine (Zas d1 f1 ss1 d2 f2 ss2 st P pp m B A1 A2 A3 A4 A5 c1 c2 c3 c4 c5 w2 (hS.below (hb_.mono hB)) (Nat.le_trans hB hb_.size)).mono ?_
  rintro e w3 ⟨B1,e1,B2q,e2,B3,e3,B4,e4,B5,e5,rfl,hon,b_⟩
  replace k_a:=Za k_a b_
  replace k_r:=Za k_r b_
  have c_w3:=b_.size
  replace hb_:=hb_.trans (b_.mono hb_.size)
  clear b_
  have o_c:=hon
  clear hon
  obtain ⟨⟨x0r,x1r,x2r,x3r,x4r,x5r,x6r,x7r,x8r,x9r,xlr⟩,f0r,f1r,f2r,f3r,f4r,f5r,f6r,f7r,f8r,f9r⟩:=Za2 k_r
  go_wp2
  have qca:=Zl k_r
  refine bodyPost_ret (v:=.tuple #[.agg #[.int .i64 d1,.int .i64 f1,.slice B1 ss1.length e1,.int .i64 d2,.int .i64 f2,.slice B2q ss2.length e2,.slice B3 st.length e3,.slice B4 P.length e4,.slice B5 pp.length e5,.int .i64 m],.slice none 0 0]) (by simp [results,Tryz.results12,go_sem, *]) rfl ?_
  clear x0r x1r x2r x3r x4r x5r x6r x7r x8r x9r xlr f0r f1r f2r f3r f4r f5r f6r f7r f8r f9r
  obtain ⟨wE,heE⟩:∃ x,x=((((((((((w3.setCell ⟨w.heap.size+1,0,none⟩ (.int .i64 d1)).setCell ⟨w.heap.size+1,1,none⟩ (.int .i64 f1)).setCell ⟨w.heap.size+1,2,none⟩ (.slice B1 ss1.length e1)).setCell ⟨w.heap.size+1,3,none⟩ (.int .i64 d2)).setCell ⟨w.heap.size+1,4,none⟩ (.int .i64 f2)).setCell ⟨w.heap.size+1,5,none⟩ (.slice B2q ss2.length e2)).setCell ⟨w.heap.size+1,6,none⟩ (.slice B3 st.length e3)).setCell ⟨w.heap.size+1,7,none⟩ (.slice B4 P.length e4)).setCell ⟨w.heap.size+1,8,none⟩ (.slice B5 pp.length e5)).setCell ⟨w.heap.size+1,9,none⟩ (.int .i64 m)):=⟨_,rfl⟩
  have hBX:Zj w3 wE:=by rw [heE];exact boxy
  have hBW:Below w.heap.size w wE:=by rw [heE];exact bel
  have hsE:wE.heap.size=w3.heap.size:=by rw [heE];simp [World.setCell]
  rw [← heE]
  clear heE
  have hOW:ZdM wE w.heap.size wE.heap.size B1 e1 B2q e2 B3 e3 B4 e4 B5 e5 none 0 (Zd.mk d1 f1 ss1 d2 f2 ss2 st) P pp []:=ZdM.mk2 (o_c.boxy hBX) (Zkj wE w.heap.size w.heap.size) (by omega) (by omega)
  exact Zea HR4.out ⟨B1,e1,B2q,e2,B3,e3,B4,e4,B5,e5,none,0,rfl,hOW,hBW⟩
 case true =>
  have HW1:=Lib.hid hw1
  by_cases h40:la.length≤40
  case neg =>
   have HR4:=Lib.hid (ZhG (W:=(Zh.mk (Zd.mk d1 f1 ss1 d2 f2 ss2 st) P pp m)) h40)
   clear hw1 hok
   generalize ZaB (Zh.mk (Zd.mk d1 f1 ss1 d2 f2 ss2 st) P pp m) la=R at *
   go_enter Tryz.func12,Tryz.ntmps12
   go_wp2_with fail
   generalize e_:(World.alloc _ _)=w1
   symm at e_
   have k_a:=hkc e_ (Zb (bnk w.heap.size) _)
   have k_r:=hkc e_ (bnk (w.heap.size+1))
   have hX_:Zj w w1:=by rw [e_];exact boxy
   have hb_:Below w.heap.size w w1:=by rw [e_];exact bel
   have c_w1:=hX_.size
   clear e_ hX_
   refine (Za0 d1 f1 ss1 d2 f2 ss2 st P pp m B A1 A2 A3 A4 A5 c1 c2 c3 c4 c5 w1 (hS.below (hb_.mono hB)) (Nat.le_trans hB hb_.size)).mono ?_
   rw [HW1.out]
   rintro e w2 ⟨rfl,b_⟩
   replace k_a:=Za k_a b_
   replace k_r:=Za k_r b_
   have c_w2:=b_.size
   replace hb_:=hb_.trans (b_.mono hb_.size)
   clear b_
   obtain ⟨x0a,x1a,x2a,x3a,x4a,x5a,x6a,x7a,x8a,x9a,xla⟩:=Zq k_a
   go_wp2_with fail
   clear x0a x1a x2a x3a x4a x5a x6a x7a x8a x9a xla
   refine (Zas d1 f1 ss1 d2 f2 ss2 st P pp m B A1 A2 A3 A4 A5 c1 c2 c3 c4 c5 w2 (hS.below (hb_.mono hB)) (Nat.le_trans hB hb_.size)).mono ?_
   rintro e w3 ⟨B1,e1,B2q,e2,B3,e3,B4,e4,B5,e5,rfl,hon,b_⟩
   replace k_a:=Za k_a b_
   replace k_r:=Za k_r b_
   have c_w3:=b_.size
   replace hb_:=hb_.trans (b_.mono hb_.size)
   clear b_
   have o_c:=hon
   clear hon
   obtain ⟨⟨x0r,x1r,x2r,x3r,x4r,x5r,x6r,x7r,x8r,x9r,xlr⟩,f0r,f1r,f2r,f3r,f4r,f5r,f6r,f7r,f8r,f9r⟩:=Za2 k_r
   go_wp2
   have qca:=Zl k_r
   refine bodyPost_ret (v:=.tuple #[.agg #[.int .i64 d1,.int .i64 f1,.slice B1 ss1.length e1,.int .i64 d2,.int .i64 f2,.slice B2q ss2.length e2,.slice B3 st.length e3,.slice B4 P.length e4,.slice B5 pp.length e5,.int .i64 m],.slice none 0 0]) (by simp [results,Tryz.results12,go_sem, *]) rfl ?_
   clear x0r x1r x2r x3r x4r x5r x6r x7r x8r x9r xlr f0r f1r f2r f3r f4r f5r f6r f7r f8r f9r
   obtain ⟨wE,heE⟩:∃ x,x=((((((((((w3.setCell ⟨w.heap.size+1,0,none⟩ (.int .i64 d1)).setCell ⟨w.heap.size+1,1,none⟩ (.int .i64 f1)).setCell ⟨w.heap.size+1,2,none⟩ (.slice B1 ss1.length e1)).setCell ⟨w.heap.size+1,3,none⟩ (.int .i64 d2)).setCell ⟨w.heap.size+1,4,none⟩ (.int .i64 f2)).setCell ⟨w.heap.size+1,5,none⟩ (.slice B2q ss2.length e2)).setCell ⟨w.heap.size+1,6,none⟩ (.slice B3 st.length e3)).setCell ⟨w.heap.size+1,7,none⟩ (.slice B4 P.length e4)).setCell ⟨w.heap.size+1,8,none⟩ (.slice B5 pp.length e5)).setCell ⟨w.heap.size+1,9,none⟩ (.int .i64 m)):=⟨_,rfl⟩
   have hBX:Zj w3 wE:=by rw [heE];exact boxy
   have hBW:Below w.heap.size w wE:=by rw [heE];exact bel
   have hsE:wE.heap.size=w3.heap.size:=by rw [heE];simp [World.setCell]
   rw [← heE]
   clear heE
   have hOW:ZdM wE w.heap.size wE.heap.size B1 e1 B2q e2 B3 e3 B4 e4 B5 e5 none 0 (Zd.mk d1 f1 ss1 d2 f2 ss2 st) P pp []:=ZdM.mk2 (o_c.boxy hBX) (Zkj wE w.heap.size w.heap.size) (by omega) (by omega)
   exact Zea HR4.out ⟨B1,e1,B2q,e2,B3,e3,B4,e4,B5,e5,none,0,rfl,hOW,hBW⟩
  case pos =>
   have hr:=ZfB (W:=(Zh.mk (Zd.mk d1 f1 ss1 d2 f2 ss2 st) P pp m)) hw1 h40
   obtain ⟨R,hR⟩:∃ R,ZaB (Zh.mk (Zd.mk d1 f1 ss1 d2 f2 ss2 st) P pp m) la=R:=⟨_,rfl⟩
   rw [hR] at hr ⊢
   have HF0:Hid (Zcn (Zh.mk (Zd.mk d1 f1 ss1 d2 f2 ss2 st) P pp m) [] (la.drop 0)=R):=hr.symm
   have HOK:=Zk hok
   obtain ⟨i0,hi0,hz0,hz1,hz2⟩:=info_parts Zf2
   clear hw1 hok hr hR
   go_enter Tryz.func12,Tryz.ntmps12
   go_wp2_with fail
   generalize e_:(World.alloc _ _)=w1
   symm at e_
   have k_a:=hkc e_ (Zb (bnk w.heap.size) _)
   have k_r:=hkc e_ (bnk (w.heap.size+1))
   have hX_:Zj w w1:=by rw [e_];exact boxy
   have hb_:Below w.heap.size w w1:=by rw [e_];exact bel
   have c_w1:=hX_.size
   clear e_ hX_
   refine (Za0 d1 f1 ss1 d2 f2 ss2 st P pp m B A1 A2 A3 A4 A5 c1 c2 c3 c4 c5 w1 (hS.below (hb_.mono hB)) (Nat.le_trans hB hb_.size)).mono ?_
   rw [HW1.out]
   rintro e w2 ⟨rfl,b_⟩
   replace k_a:=Za k_a b_
   replace k_r:=Za k_r b_
   have c_w2:=b_.size
   replace hb_:=hb_.trans (b_.mono hb_.size)
   clear b_
   obtain ⟨x0a,x1a,x2a,x3a,x4a,x5a,x6a,x7a,x8a,x9a,xla⟩:=Zq k_a
   go_wp2_with fail
   clear x0a x1a x2a x3a x4a x5a x6a x7a x8a x9a xla
   refine (Zas d1 f1 ss1 d2 f2 ss2 st P pp m B A1 A2 A3 A4 A5 c1 c2 c3 c4 c5 w2 (hS.below (hb_.mono hB)) (Nat.le_trans hB hb_.size)).mono ?_
   rintro e w3 ⟨B1,e1,B2q,e2,B3,e3,B4,e4,B5,e5,rfl,hon,b_⟩
   replace k_a:=Za k_a b_
   replace k_r:=Za k_r b_
   have c_w3:=b_.size
   replace hb_:=hb_.trans (b_.mono hb_.size)
   clear b_
   have o_c:=hon
   clear hon
   obtain ⟨x0a,x1a,x2a,x3a,x4a,x5a,x6a,x7a,x8a,x9a,xla⟩:=Zq k_a
   go_wp2_with fail
   clear x0a x1a x2a x3a x4a x5a x6a x7a x8a x9a xla
   have l_a:=Zg k_a
   have l_r:=Zg k_r
   have lt_a_w4:=Zg k_a
   have lt_r_w4:=Zg k_r
   generalize e_:(World.alloc _ _)=w4
   symm at e_
   replace k_a:=hkc e_ (Zb (Zb k_a _) _)
   replace k_r:=hkc e_ (Zb (Zb k_r _) _)
   have k_nb:=hkc e_ (Zb (bnk w3.heap.size) _)
   have k_o:=hkc e_ (bnk (w3.heap.size+1))
   have hX_:Zj w3 w4:=by rw [e_];exact boxy
   replace o_c:=o_c.boxy hX_
   replace hb_:Below w.heap.size w w4:=by rw [e_];exact bel
   have c_w4:=hX_.size
   clear l_a l_r e_ hX_
   have hltnb:=Zg k_nb
   have qia:=Zhs k_nb
   clear k_nb
   go_loopw [7,27] (fun nums i wr=>∃ (k:Nat) (d1k f1k:Int) (ss1k:List ByteArray) (d2k f2k:Int) (ss2k:List ByteArray) (stk:List Zv) (Pk:List Zr) (ppk:List Zt) (mk:Int) (xk:List Int) (H1:Option Addr) (u1:Nat) (H2:Option Addr) (u2:Nat) (H3:Option Addr) (u3:Nat) (H4:Option Addr) (u4:Nat) (H5:Option Addr) (u5:Nat) (H6:Option Addr) (u6:Nat) (l1 h1 l2 h2:Nat),k≤la.length∧i=.int .i64 k∧nums=.slice H6 xk.length u6∧Hid (xk.length=k)∧Hid (Zcn (Zh.mk (Zd.mk d1k f1k ss1k d2k f2k ss2k stk) Pk ppk mk) xk (la.drop k)=R)∧Hid (ZaI (Zd.mk d1k f1k ss1k d2k f2k ss2k stk) Pk ppk 1048576)∧wr.heap[w3.heap.size+1]?=some (.cells #[.int .i64 d1k,.int .i64 f1k,.slice H1 ss1k.length u1,.int .i64 d2k,.int .i64 f2k,.slice H2 ss2k.length u2,.slice H3 stk.length u3,.slice H4 Pk.length u4,.slice H5 ppk.length u5,.int .i64 mk] 33 (0,0))∧wr.heap[w.heap.size+1]?=some (.cells #[.int .i64 0,.int .i64 0,.slice none 0 0,.int .i64 0,.int .i64 0,.slice none 0 0,.slice none 0 0,.slice none 0 0,.slice none 0 0,.int .i64 0] 33 (0,0))∧Zau wr l1 h1 H1 u1 H2 u2 H3 u3 H4 u4 H5 u5 (Zd.mk d1k f1k ss1k d2k f2k ss2k stk) Pk ppk∧ZdI wr l2 h2 H6 u6 xk∧(h1≤l2∨h2≤l1)∧(w.heap.size≤l1∧h1≤wr.heap.size∧w.heap.size≤l2∧h2≤wr.heap.size∧l2≤wr.heap.size)∧w4.heap.size≤wr.heap.size∧Below w.heap.size w wr) (fun _ i _=>la.length - (intOf i).toNat)
   case atStart=>exact ⟨0,d1,f1,ss1,d2,f2,ss2,st,P,pp,m,[],B1,e1,B2q,e2,B3,e3,B4,e4,B5,e5,_,0,_,_,_,_,Nat.zero_le _,rfl,rfl,rfl,HF0,HOK,k_o,k_r,o_c,qia,by omega,by omega,Nat.le_refl _,hb_⟩
   case round =>
    obtain ⟨k,d1k,f1k,ss1k,d2k,f2k,ss2k,stk,Pk,ppk,mk,xk,H1,u1,H2,u2,H3,u3,H4,u4,H5,u5,H6,u6,l1,h1,l2,h2,hk,rfl,rfl,HXL,HF,HOKK,hko,hkr,hoW,hoN,hd12,hr12,hwr,hbr⟩:=hrel
    by_cases hlt:k<la.length
    ·obtain ⟨hkl,ad,rfl,hab,hc0,hc1,hc2⟩:=(hX.below (hbr.mono hB)).at_ hlt
     have hst:=Zhk (W:=(Zh.mk (Zd.mk d1k f1k ss1k d2k f2k ss2k stk) Pk ppk mk)) (xs:=xk) (l:=la) hkl
     rw [HF.out] at hst
     have hokx:=Ze3 (Zh.mk (Zd.mk d1k f1k ss1k d2k f2k ss2k stk) Pk ppk mk) la[k].k la[k].a la[k].b HOKK.out
     have hcall:=fun (W:World) (hW1:ZaF W W.heap.size H1 H2 H3 H4 u4 H5 (Zd.mk d1k f1k ss1k d2k f2k ss2k stk) Pk ppk)=>Zo8 d1k f1k ss1k d2k f2k ss2k stk Pk ppk mk la[k].k la[k].a la[k].b W.heap.size H1 H2 H3 H4 H5 u1 u2 u3 u4 u5 W hW1 (Nat.le_refl _) HOKK.out
     generalize Zs (Zh.mk (Zd.mk d1k f1k ss1k d2k f2k ss2k stk) Pk ppk mk) la[k].k la[k].a la[k].b=Q at *
     obtain ⟨⟨⟨d1r,f1r,ss1r,d2r,f2r,ss2r,str⟩,Pr,ppr,mr⟩,rb⟩:=Q
     simp only at hcall hst hokx
     have HST:=Lib.hid hst
     have HCALL:=Zk hcall
     have HOKX:=Zk hokx
     clear hst hcall hokx HF
     have qda:=hbr.size
     obtain ⟨x0o,x1o,x2o,x3o,x4o,x5o,x6o,x7o,x8o,x9o,xlo⟩:=Zq hko
     go_wp2_with fail
     clear x0o x1o x2o x3o x4o x5o x6o x7o x8o x9o xlo
     have l_o:=Zg hko
     have l_r:=Zg hkr
     have lt_o_w21:=Zg hko
     have lt_r_w21:=Zg hkr
     generalize e_:(World.alloc _ _)=w21
     symm at e_
     have k_o:=hkc e_ (Zb hko _)
     have k_r:=hkc e_ (Zb hkr _)
     have k_act:=hkc e_ (bnk wr.heap.size)
     have hX_:Zj wr w21:=by rw [e_];exact boxy
     have o_W:=hoW.boxy hX_
     have o_N:=hoN.boxy hX_
     have hb_:Below w.heap.size w w21:=by rw [e_];exact bel
     have c_w21:=hX_.size
     clear l_o l_r e_ hko hkr hX_ hoW hoN hbr
     clear hc0 hc1 hc2
     refine (Ze HCALL _ (o_W.rd ((Ze HOKK).more (by omega)))).mono ?_
     rintro e w22 ⟨G1,q1,G2,q2,G3,q3,G4,q4,G5,q5,rfl,hon,b_⟩
     replace k_o:=Za k_o b_
     replace k_r:=Za k_r b_
     replace k_act:=Za k_act b_
     replace o_W:=o_W.below b_
     replace o_N:=o_N.below b_
     have c_w22:=b_.size
     replace hb_:=hb_.trans (b_.mono hb_.size)
     clear b_
     have o_n:=hon
     clear hon
     clear o_W
     go_wp2_with fail
     have l_o:=Zg k_o
     have l_r:=Zg k_r
     have l_act:=Zg k_act
     have lt_o_w23:=Zg k_o
     have lt_r_w23:=Zg k_r
     have lt_act_w23:=Zg k_act
     generalize e_:(World.alloc _ _)=w23
     symm at e_
     replace k_o:=hkc e_ (Zb k_o _)
     replace k_r:=hkc e_ (Zb k_r _)
     replace k_act:=hkc e_ (Zb k_act _)
     have k_nx:=hkc e_ (bnk w22.heap.size)
     have hX_:Zj w22 w23:=by rw [e_];exact boxy
     replace o_N:=o_N.boxy hX_
     replace o_n:=o_n.boxy hX_
     replace hb_:Below w.heap.size w w23:=by rw [e_];exact bel
     have c_w23:=hX_.size
     clear l_o l_r l_act e_ hX_
     obtain ⟨⟨x0o,x1o,x2o,x3o,x4o,x5o,x6o,x7o,x8o,x9o,xlo⟩,f0o,f1o,f2o,f3o,f4o,f5o,f6o,f7o,f8o,f9o⟩:=Za2 k_o
     obtain ⟨x0nx,x1nx,x2nx,x3nx,x4nx,x5nx,x6nx,x7nx,x8nx,x9nx,xlnx⟩:=Zq k_nx
     go_region_law ((have hoE:=o_N.row.alloc (.cells #[.int .i64 rb] 3));(have hrE:=Zer w23 #[.int .i64 rb] 3 1 1 rfl);refine Za1 _ rfl (.tmp 38) (.tmp 40) _ rfl l2 3 i0 _ 1 8 Tryz.underlying37 hi0 hz0 hz1 hz2 rfl (by omega) (.slice H6 xk.length u6) xk.length (Zd7 xk) rfl ?_ (w23.heap.size+1) (some ⟨w23.heap.size,0,none⟩) 1 1 [.int .i64 rb] rfl ?_ (Zmd _) ?_ ?_ ?_ ?_;(first|exact hoE|exact ⟨hoE.1,hoE.2⟩);(first|exact hrE|exact ⟨hrE.1,hrE.2⟩);(have hxl9:=HXL.out;unfold maxLen;omega);(have hxl9:=HXL.out;omega);(simp;omega);intro v1 w90 hoa hga0 hata;(have hga:World.grownBy (w23.alloc (.cells #[.int .i64 rb] 3)) w90 (Value.slice H6 xk.length u6).ownBlock:=(by first|exact hga0|exact ⟨hga0.os,hga0.tape,hga0.output,hga0.size,hga0.block⟩));rw [ZhN] at hoa;obtain ⟨A9,c9,kz,rfl,hoq,hkz,hkz2⟩:=ZdI.appended (w0:=w23.alloc (.cells #[.int .i64 rb] 3)) o_N hoa (by simp) (by omega) (by first|exact hata|(simpa using hata));(have hWt:Zcv l2 h2 (w23.alloc (.cells #[.int .i64 rb] 3)) w90:=Zcv.of_grown hoE (by decide) hga (Nat.le_refl _) o_N.top);(have qaa:=Zak (Zb k_o (.cells #[.int .i64 rb] 3)) hga hoE (by decide));(have qfa:=Zak (Zb k_r (.cells #[.int .i64 rb] 3)) hga hoE (by decide));(have qea:=Zak (Zb k_nx (.cells #[.int .i64 rb] 3)) hga hoE (by decide));(have qga:=(o_n.alloc (.cells #[.int .i64 rb] 3)).within hWt (by omega));(have qha:w23.heap.size+1≤w90.heap.size:=(by have:=hga.size;simp at this;omega));(have qja:Below w.heap.size w w90:=(hb_.alloc (by first|exact Nat.le_refl _|(simp;done)|omega|(simp;omega)|exact (‹_∧_∧Below _ _ _›).2.2.size) (.cells #[.int .i64 rb] 3)).trans (hWt.below (by omega) (by simp;omega)));obtain ⟨hyo0,hyo1,hyo2,hyo3,hyo4,hyo5,hyo6,hyo7,hyo8,hyo9,hyol⟩:=Zq qaa;obtain ⟨hyx0,hyx1,hyx2,hyx3,hyx4,hyx5,hyx6,hyx7,hyx8,hyx9,hyxl⟩:=Zq qea;have hfo0:=(Zc qaa 0).2;have hfo1:=(Zc qaa 1).2;have hfo2:=(Zc qaa 2).2;have hfo3:=(Zc qaa 3).2;have hfo4:=(Zc qaa 4).2;have hfo5:=(Zc qaa 5).2;have hfo6:=(Zc qaa 6).2;have hfo7:=(Zc qaa 7).2;have hfo8:=(Zc qaa 8).2;have hfo9:=(Zc qaa 9).2;clear hga hga0 hrE hata hoE x0o x1o x2o x3o x4o x5o x6o x7o x8o x9o xlo f0o f1o f2o f3o f4o f5o f6o f7o f8o f9o x0nx x1nx x2nx x3nx x4nx x5nx x6nx x7nx x8nx x9nx xlnx)
     all_goals (
      go_wp2
      have hkz3:(l2≤kz∧kz<h2)∨kz=w23.heap.size+1:=by first|(simpa using hkz)|(simp at hkz;omega)
      have qma:=Zl qaa
      go_roundw
      case rel =>
       obtain ⟨wE,heE⟩:∃ x,x=((((((((((w90.setCell ⟨w3.heap.size+1,0,none⟩ (.int .i64 d1r)).setCell ⟨w3.heap.size+1,1,none⟩ (.int .i64 f1r)).setCell ⟨w3.heap.size+1,2,none⟩ (.slice G1 ss1r.length q1)).setCell ⟨w3.heap.size+1,3,none⟩ (.int .i64 d2r)).setCell ⟨w3.heap.size+1,4,none⟩ (.int .i64 f2r)).setCell ⟨w3.heap.size+1,5,none⟩ (.slice G2 ss2r.length q2)).setCell ⟨w3.heap.size+1,6,none⟩ (.slice G3 str.length q3)).setCell ⟨w3.heap.size+1,7,none⟩ (.slice G4 Pr.length q4)).setCell ⟨w3.heap.size+1,8,none⟩ (.slice G5 ppr.length q5)).setCell ⟨w3.heap.size+1,9,none⟩ (.int .i64 mr)):=⟨_,rfl⟩
       have hBX:Zj w90 wE:=by rw [heE];exact boxy
       have hBW:Below w.heap.size w wE:=by rw [heE];exact bel
       have hsE:wE.heap.size=w90.heap.size:=by rw [heE];simp [World.setCell]
       have hkoE:wE.heap[w3.heap.size+1]?=some (.cells #[.int .i64 d1r,.int .i64 f1r,.slice G1 ss1r.length q1,.int .i64 d2r,.int .i64 f2r,.slice G2 ss2r.length q2,.slice G3 str.length q3,.slice G4 Pr.length q4,.slice G5 ppr.length q5,.int .i64 mr] 33 (0,0)):=by rw [heE];exact Zgy qaa _ _ _ _ _ _ _ _ _ _
       have hkrE:wE.heap[w.heap.size+1]?=some (.cells #[.int .i64 0,.int .i64 0,.slice none 0 0,.int .i64 0,.int .i64 0,.slice none 0 0,.slice none 0 0,.slice none 0 0,.slice none 0 0,.int .i64 0] 33 (0,0)):=by rw [heE];exact (Zf (p:=⟨w3.heap.size+1,9,none⟩) (Zf (p:=⟨w3.heap.size+1,8,none⟩) (Zf (p:=⟨w3.heap.size+1,7,none⟩) (Zf (p:=⟨w3.heap.size+1,6,none⟩) (Zf (p:=⟨w3.heap.size+1,5,none⟩) (Zf (p:=⟨w3.heap.size+1,4,none⟩) (Zf (p:=⟨w3.heap.size+1,3,none⟩) (Zf (p:=⟨w3.heap.size+1,2,none⟩) (Zf (p:=⟨w3.heap.size+1,1,none⟩) (Zf (p:=⟨w3.heap.size+1,0,none⟩) qfa (show ¬w.heap.size+1=w3.heap.size+1 by omega) (.int .i64 d1r)) (show ¬w.heap.size+1=w3.heap.size+1 by omega) (.int .i64 f1r)) (show ¬w.heap.size+1=w3.heap.size+1 by omega) (.slice G1 ss1r.length q1)) (show ¬w.heap.size+1=w3.heap.size+1 by omega) (.int .i64 d2r)) (show ¬w.heap.size+1=w3.heap.size+1 by omega) (.int .i64 f2r)) (show ¬w.heap.size+1=w3.heap.size+1 by omega) (.slice G2 ss2r.length q2)) (show ¬w.heap.size+1=w3.heap.size+1 by omega) (.slice G3 str.length q3)) (show ¬w.heap.size+1=w3.heap.size+1 by omega) (.slice G4 Pr.length q4)) (show ¬w.heap.size+1=w3.heap.size+1 by omega) (.slice G5 ppr.length q5)) (show ¬w.heap.size+1=w3.heap.size+1 by omega) (.int .i64 mr))
       have hoWE:=qga.boxy hBX
       have hoNE:=hoq.boxy hBX
       first|rw [← heE]|skip
       exact ⟨k+1,d1r,f1r,ss1r,d2r,f2r,ss2r,str,Pr,ppr,mr,xk++[rb],G1,q1,G2,q2,G3,q3,G4,q4,G5,q5,A9,c9,_,_,kz,kz+1,by omega,by go_num,by simp,(by unfold Hid;have hxl9:=HXL.out;simp;omega),HST.out.symm,Ze HOKX,hkoE,hkrE,hoWE,hoNE,by omega,by omega,by omega,hBW⟩
      case measure=>simp [intOf];omega
     )
    ·have hke:k=la.length:=by omega
     subst hke
     have hfin:=Zh1 (W:=(Zh.mk (Zd.mk d1k f1k ss1k d2k f2k ss2k stk) Pk ppk mk)) (xs:=xk) (l:=la) (Nat.le_refl _)
     rw [HF.out] at hfin
     have HR4:=Lib.hid hfin
     clear hfin HF
     have qda:=hbr.size
     obtain ⟨x0o,x1o,x2o,x3o,x4o,x5o,x6o,x7o,x8o,x9o,xlo⟩:=Zq hko
     obtain ⟨⟨x0r,x1r,x2r,x3r,x4r,x5r,x6r,x7r,x8r,x9r,xlr⟩,f0r,f1r,f2r,f3r,f4r,f5r,f6r,f7r,f8r,f9r⟩:=Za2 hkr
     go_wp2
     have qca:=Zl hkr
     refine bodyPost_ret (v:=.tuple #[.agg #[.int .i64 d1k,.int .i64 f1k,.slice H1 ss1k.length u1,.int .i64 d2k,.int .i64 f2k,.slice H2 ss2k.length u2,.slice H3 stk.length u3,.slice H4 Pk.length u4,.slice H5 ppk.length u5,.int .i64 mk],.slice H6 xk.length u6]) (by simp [results,Tryz.results12,go_sem, *]) rfl ?_
     clear x0o x1o x2o x3o x4o x5o x6o x7o x8o x9o xlo x0r x1r x2r x3r x4r x5r x6r x7r x8r x9r xlr f0r f1r f2r f3r f4r f5r f6r f7r f8r f9r
     obtain ⟨wE,heE⟩:∃ x,x=((((((((((wr.setCell ⟨w.heap.size+1,0,none⟩ (.int .i64 d1k)).setCell ⟨w.heap.size+1,1,none⟩ (.int .i64 f1k)).setCell ⟨w.heap.size+1,2,none⟩ (.slice H1 ss1k.length u1)).setCell ⟨w.heap.size+1,3,none⟩ (.int .i64 d2k)).setCell ⟨w.heap.size+1,4,none⟩ (.int .i64 f2k)).setCell ⟨w.heap.size+1,5,none⟩ (.slice H2 ss2k.length u2)).setCell ⟨w.heap.size+1,6,none⟩ (.slice H3 stk.length u3)).setCell ⟨w.heap.size+1,7,none⟩ (.slice H4 Pk.length u4)).setCell ⟨w.heap.size+1,8,none⟩ (.slice H5 ppk.length u5)).setCell ⟨w.heap.size+1,9,none⟩ (.int .i64 mk)):=⟨_,rfl⟩
     have hBX:Zj wr wE:=by rw [heE];exact boxy
     have hBW:Below w.heap.size w wE:=by rw [heE];exact bel
     have hsE:wE.heap.size=wr.heap.size:=by rw [heE];simp [World.setCell]
     rw [← heE]
     clear heE
     have hOW:ZdM wE w.heap.size wE.heap.size H1 u1 H2 u2 H3 u3 H4 u4 H5 u5 H6 u6 (Zd.mk d1k f1k ss1k d2k f2k ss2k stk) Pk ppk xk:=ZdM.mk2 (hoW.boxy hBX) (hoN.boxy hBX) (by omega) (by omega)
     exact Zea HR4.out ⟨H1,u1,H2,u2,H3,u3,H4,u4,H5,u5,H6,u6,rfl,hOW,hBW⟩
theorem Zp9 {wf w0:World} {b g:Nat} {d1r f1r d2r f2r mr:Int} {ss1r ss2r:List ByteArray} {str:List Zv} {Pr:List Zr} {ppr:List Zt} {A1_z:Option Addr} {c1_z:Nat} {A2_z:Option Addr} {c2_z:Nat} {A3_z:Option Addr} {c3_z:Nat} {A4_z:Option Addr} {c4_z:Nat} {A5_z:Option Addr} {c5_z:Nat} {z0 z1 z2 z3 z4 z5 z6 z7 z8 z9:Value} (hk:wf.heap[g]?=some (.cells #[z0,z1,z2,z3,z4,z5,z6,z7,z8,z9] 33 (0,0))) (ho:Zau wf (b) (wf.heap.size) A1_z c1_z A2_z c2_z A3_z c3_z A4_z c4_z A5_z c5_z (Zd.mk d1r f1r ss1r d2r f2r ss2r str) Pr ppr) (hb:Below b w0 wf) (hg:b≤g) :
  ((((((((((wf.setCell ⟨g,0,none⟩ (.int .i64 d1r)).setCell ⟨g,1,none⟩ (.int .i64 f1r)).setCell ⟨g,2,none⟩ (.slice A1_z ss1r.length c1_z)).setCell ⟨g,3,none⟩ (.int .i64 d2r)).setCell ⟨g,4,none⟩ (.int .i64 f2r)).setCell ⟨g,5,none⟩ (.slice A2_z ss2r.length c2_z)).setCell ⟨g,6,none⟩ (.slice A3_z str.length c3_z)).setCell ⟨g,7,none⟩ (.slice A4_z Pr.length c4_z)).setCell ⟨g,8,none⟩ (.slice A5_z ppr.length c5_z)).setCell ⟨g,9,none⟩ (.int .i64 mr)).heap[g]?=some (.cells #[.int .i64 d1r,.int .i64 f1r,.slice A1_z ss1r.length c1_z,.int .i64 d2r,.int .i64 f2r,.slice A2_z ss2r.length c2_z,.slice A3_z str.length c3_z,.slice A4_z Pr.length c4_z,.slice A5_z ppr.length c5_z,.int .i64 mr] 33 (0,0))∧Zau ((((((((((wf.setCell ⟨g,0,none⟩ (.int .i64 d1r)).setCell ⟨g,1,none⟩ (.int .i64 f1r)).setCell ⟨g,2,none⟩ (.slice A1_z ss1r.length c1_z)).setCell ⟨g,3,none⟩ (.int .i64 d2r)).setCell ⟨g,4,none⟩ (.int .i64 f2r)).setCell ⟨g,5,none⟩ (.slice A2_z ss2r.length c2_z)).setCell ⟨g,6,none⟩ (.slice A3_z str.length c3_z)).setCell ⟨g,7,none⟩ (.slice A4_z Pr.length c4_z)).setCell ⟨g,8,none⟩ (.slice A5_z ppr.length c5_z)).setCell ⟨g,9,none⟩ (.int .i64 mr)) (b) (((((((((((wf.setCell ⟨g,0,none⟩ (.int .i64 d1r)).setCell ⟨g,1,none⟩ (.int .i64 f1r)).setCell ⟨g,2,none⟩ (.slice A1_z ss1r.length c1_z)).setCell ⟨g,3,none⟩ (.int .i64 d2r)).setCell ⟨g,4,none⟩ (.int .i64 f2r)).setCell ⟨g,5,none⟩ (.slice A2_z ss2r.length c2_z)).setCell ⟨g,6,none⟩ (.slice A3_z str.length c3_z)).setCell ⟨g,7,none⟩ (.slice A4_z Pr.length c4_z)).setCell ⟨g,8,none⟩ (.slice A5_z ppr.length c5_z)).setCell ⟨g,9,none⟩ (.int .i64 mr)).heap.size) A1_z c1_z A2_z c2_z A3_z c3_z A4_z c4_z A5_z c5_z (Zd.mk d1r f1r ss1r d2r f2r ss2r str) Pr ppr∧Below b w0 ((((((((((wf.setCell ⟨g,0,none⟩ (.int .i64 d1r)).setCell ⟨g,1,none⟩ (.int .i64 f1r)).setCell ⟨g,2,none⟩ (.slice A1_z ss1r.length c1_z)).setCell ⟨g,3,none⟩ (.int .i64 d2r)).setCell ⟨g,4,none⟩ (.int .i64 f2r)).setCell ⟨g,5,none⟩ (.slice A2_z ss2r.length c2_z)).setCell ⟨g,6,none⟩ (.slice A3_z str.length c3_z)).setCell ⟨g,7,none⟩ (.slice A4_z Pr.length c4_z)).setCell ⟨g,8,none⟩ (.slice A5_z ppr.length c5_z)).setCell ⟨g,9,none⟩ (.int .i64 mr)):=by
 refine ⟨Zgy hk _ _ _ _ _ _ _ _ _ _,?_,?_⟩
 ·exact (ho.box hk (by decide) (by repeat (first|(with_reducible exact World.grownBy.refl _ _)|(with_reducible refine ZdA ?_ (.inl rfl) _)))).wide (Nat.le_refl _) (by simp [World.setCell])
 ·exact bel
theorem Zqg {wf w0:World} {b g:Nat} {d1r f1r d2r f2r mr:Int} {ss1r ss2r:List ByteArray} {str:List Zv} {Pr:List Zr} {ppr:List Zt} {A1_z:Option Addr} {c1_z:Nat} {A2_z:Option Addr} {c2_z:Nat} {A3_z:Option Addr} {c3_z:Nat} {A4_z:Option Addr} {c4_z:Nat} {A5_z:Option Addr} {c5_z:Nat} (hb:Below b w0 wf) (ho:Zau wf (b) (wf.heap.size) A1_z c1_z A2_z c2_z A3_z c3_z A4_z c4_z A5_z c5_z (Zd.mk d1r f1r ss1r d2r f2r ss2r str) Pr ppr) (hg:g=wf.heap.size) (hg2:b≤g) :
  (wf.alloc (.cells #[.int .i64 d1r,.int .i64 f1r,.slice A1_z ss1r.length c1_z,.int .i64 d2r,.int .i64 f2r,.slice A2_z ss2r.length c2_z,.slice A3_z str.length c3_z,.slice A4_z Pr.length c4_z,.slice A5_z ppr.length c5_z,.int .i64 mr] 33)).heap[g]?=some (.cells #[.int .i64 d1r,.int .i64 f1r,.slice A1_z ss1r.length c1_z,.int .i64 d2r,.int .i64 f2r,.slice A2_z ss2r.length c2_z,.slice A3_z str.length c3_z,.slice A4_z Pr.length c4_z,.slice A5_z ppr.length c5_z,.int .i64 mr] 33 (0,0))∧Zau (wf.alloc (.cells #[.int .i64 d1r,.int .i64 f1r,.slice A1_z ss1r.length c1_z,.int .i64 d2r,.int .i64 f2r,.slice A2_z ss2r.length c2_z,.slice A3_z str.length c3_z,.slice A4_z Pr.length c4_z,.slice A5_z ppr.length c5_z,.int .i64 mr] 33)) (b) ((wf.alloc (.cells #[.int .i64 d1r,.int .i64 f1r,.slice A1_z ss1r.length c1_z,.int .i64 d2r,.int .i64 f2r,.slice A2_z ss2r.length c2_z,.slice A3_z str.length c3_z,.slice A4_z Pr.length c4_z,.slice A5_z ppr.length c5_z,.int .i64 mr] 33)).heap.size) A1_z c1_z A2_z c2_z A3_z c3_z A4_z c4_z A5_z c5_z (Zd.mk d1r f1r ss1r d2r f2r ss2r str) Pr ppr∧Below b w0 (wf.alloc (.cells #[.int .i64 d1r,.int .i64 f1r,.slice A1_z ss1r.length c1_z,.int .i64 d2r,.int .i64 f2r,.slice A2_z ss2r.length c2_z,.slice A3_z str.length c3_z,.slice A4_z Pr.length c4_z,.slice A5_z ppr.length c5_z,.int .i64 mr] 33)):=by
 subst hg
 exact ⟨Zav _ _ rfl,(ho.alloc _).wide (Nat.le_refl _) (by simp),bel⟩
set_option maxHeartbeats 3200000 in
theorem Znc (d1 f1:Int) (ss1:List ByteArray) (d2 f2:Int) (ss2:List ByteArray) (st:List Zv) (P:List Zr) (pp:List Zt) (m:Int) (la:List Zbw) (B:Nat) (A1 A2 A3 A4 A5:Option Addr) (c1 c2 c3 c4 c5:Nat) (Aa:Option Addr) (ca:Nat) (w:World) (hS:ZaF w B A1 A2 A3 A4 c4 A5 ⟨d1,f1,ss1,d2,f2,ss2,st⟩ P pp) (hX:ZgC w B Aa la.length la) (hB:B≤w.heap.size) (hok:ZaI (Zd.mk d1 f1 ss1 d2 f2 ss2 st) P pp 1048576) :
  Calls Tryz.prog 76 #[.agg #[.int .i64 d1,.int .i64 f1,.slice A1 ss1.length c1,.int .i64 d2,.int .i64 f2,.slice A2 ss2.length c2,.slice A3 st.length c3,.slice A4 P.length c4,.slice A5 pp.length c5,.int .i64 m],.slice Aa la.length ca] w (Zia (ZaB (Zh.mk (Zd.mk d1 f1 ss1 d2 f2 ss2 st) P pp m) la).1.D.d1 (ZaB (Zh.mk (Zd.mk d1 f1 ss1 d2 f2 ss2 st) P pp m) la).1.D.f1 (ZaB (Zh.mk (Zd.mk d1 f1 ss1 d2 f2 ss2 st) P pp m) la).1.D.ss1 (ZaB (Zh.mk (Zd.mk d1 f1 ss1 d2 f2 ss2 st) P pp m) la).1.D.d2 (ZaB (Zh.mk (Zd.mk d1 f1 ss1 d2 f2 ss2 st) P pp m) la).1.D.f2 (ZaB (Zh.mk (Zd.mk d1 f1 ss1 d2 f2 ss2 st) P pp m) la).1.D.ss2 (ZaB (Zh.mk (Zd.mk d1 f1 ss1 d2 f2 ss2 st) P pp m) la).1.D.st (ZaB (Zh.mk (Zd.mk d1 f1 ss1 d2 f2 ss2 st) P pp m) la).1.P (ZaB (Zh.mk (Zd.mk d1 f1 ss1 d2 f2 ss2 st) P pp m) la).1.pp (ZaB (Zh.mk (Zd.mk d1 f1 ss1 d2 f2 ss2 st) P pp m) la).1.m (ZaB (Zh.mk (Zd.mk d1 f1 ss1 d2 f2 ss2 st) P pp m) la).2 w):=by
 have hnX:=hX.nb
 cases hw1:Zp (Zh.mk (Zd.mk d1 f1 ss1 d2 f2 ss2 st) P pp m)
 case false =>
  have HR4:=Lib.hid (Zh3 (l:=la) hw1)
  have HW1:=Lib.hid hw1
  clear hw1 hok
  generalize ZaB (Zh.mk (Zd.mk d1 f1 ss1 d2 f2 ss2 st) P pp m) la=R at *
  go_enter Tryz.func76,Tryz.ntmps76
  go_wp2_with fail
  generalize e_:(World.alloc _ _)=w1
  symm at e_
  have k_a:=hkc e_ (Zb (bnk w.heap.size) _)
  have k_r:=hkc e_ (bnk (w.heap.size+1))
  have hX_:Zj w w1:=by rw [e_];exact boxy
  have hb_:Below w.heap.size w w1:=by rw [e_];exact bel
  have c_w1:=hX_.size
  clear e_ hX_
  refine (Zaz d1 f1 ss1 d2 f2 ss2 st P pp m B A1 A2 A3 A4 A5 c1 c2 c3 c4 c5 w1 (hS.below (hb_.mono hB)) (Nat.le_trans hB hb_.size)).mono ?_
  rintro e w2 ⟨B1,e1,B2q,e2,B3,e3,B4,e4,B5,e5,rfl,hon,b_⟩
  replace k_a:=Za k_a b_
  replace k_r:=Za k_r b_
  have c_w2:=b_.size
  replace hb_:=hb_.trans (b_.mono hb_.size)
  clear b_
  have o_c:=hon
  clear hon
  obtain ⟨x0a,x1a,x2a,x3a,x4a,x5a,x6a,x7a,x8a,x9a,xla⟩:=Zq k_a
  go_wp2_with fail
  clear x0a x1a x2a x3a x4a x5a x6a x7a x8a x9a xla
  have l_a:=Zg k_a
  have l_r:=Zg k_r
  have lt_a_w3:=Zg k_a
  have lt_r_w3:=Zg k_r
  generalize e_:(World.alloc _ _)=w3
  symm at e_
  replace k_a:=hkc e_ (Zb (Zb k_a _) _)
  replace k_r:=hkc e_ (Zb (Zb k_r _) _)
  have k_o:=hkc e_ (Zb (bnk w2.heap.size) _)
  have k_nb:=hkc e_ (bnk (w2.heap.size+1))
  have hX_:Zj w2 w3:=by rw [e_];exact boxy
  replace o_c:=o_c.boxy hX_
  replace hb_:Below w.heap.size w w3:=by rw [e_];exact bel
  have c_w3:=hX_.size
  clear l_a l_r e_ hX_
  have hltnb:=Zg k_nb
  have qba:=Zhs k_nb
  clear k_nb
  refine (Zz d1 f1 ss1 d2 f2 ss2 st P pp m B A1 A2 A3 A4 A5 c1 c2 c3 c4 c5 w3 (hS.below (hb_.mono hB)) (Nat.le_trans hB hb_.size)).mono ?_
  rw [HW1.out]
  rintro e w4 ⟨rfl,b_⟩
  replace k_a:=Za k_a b_
  replace k_r:=Za k_r b_
  replace k_o:=Za k_o b_
  replace o_c:=o_c.below b_
  have o_N:=qba.below b_
  have c_w4:=b_.size
  replace hb_:=hb_.trans (b_.mono hb_.size)
  clear qba b_
  obtain ⟨x0o,x1o,x2o,x3o,x4o,x5o,x6o,x7o,x8o,x9o,xlo⟩:=Zq k_o
  obtain ⟨⟨x0r,x1r,x2r,x3r,x4r,x5r,x6r,x7r,x8r,x9r,xlr⟩,f0r,f1r,f2r,f3r,f4r,f5r,f6r,f7r,f8r,f9r⟩:=Za2 k_r
  go_wp2
  have qca:=Zl k_r
  refine bodyPost_ret (v:=.tuple #[.agg #[.int .i64 d1,.int .i64 f1,.slice B1 ss1.length e1,.int .i64 d2,.int .i64 f2,.slice B2q ss2.length e2,.slice B3 st.length e3,.slice B4 P.length e4,.slice B5 pp.length e5,.int .i64 m],.slice (some ⟨w2.heap.size+1,0,none⟩) 0 0]) (by simp [results,Tryz.results76,go_sem, *]) rfl ?_
  clear x0o x1o x2o x3o x4o x5o x6o x7o x8o x9o xlo x0r x1r x2r x3r x4r x5r x6r x7r x8r x9r xlr f0r f1r f2r f3r f4r f5r f6r f7r f8r f9r
  obtain ⟨wE,heE⟩:∃ x,x=((((((((((w4.setCell ⟨w.heap.size+1,0,none⟩ (.int .i64 d1)).setCell ⟨w.heap.size+1,1,none⟩ (.int .i64 f1)).setCell ⟨w.heap.size+1,2,none⟩ (.slice B1 ss1.length e1)).setCell ⟨w.heap.size+1,3,none⟩ (.int .i64 d2)).setCell ⟨w.heap.size+1,4,none⟩ (.int .i64 f2)).setCell ⟨w.heap.size+1,5,none⟩ (.slice B2q ss2.length e2)).setCell ⟨w.heap.size+1,6,none⟩ (.slice B3 st.length e3)).setCell ⟨w.heap.size+1,7,none⟩ (.slice B4 P.length e4)).setCell ⟨w.heap.size+1,8,none⟩ (.slice B5 pp.length e5)).setCell ⟨w.heap.size+1,9,none⟩ (.int .i64 m)):=⟨_,rfl⟩
  have hBX:Zj w4 wE:=by rw [heE];exact boxy
  have hBW:Below w.heap.size w wE:=by rw [heE];exact bel
  have hsE:wE.heap.size=w4.heap.size:=by rw [heE];simp [World.setCell]
  rw [← heE]
  clear heE
  have hOW:ZdM wE w.heap.size wE.heap.size B1 e1 B2q e2 B3 e3 B4 e4 B5 e5 (some ⟨w2.heap.size+1,0,none⟩) 0 (Zd.mk d1 f1 ss1 d2 f2 ss2 st) P pp []:=ZdM.mk2 (o_c.boxy hBX) (o_N.boxy hBX) (by omega) (by omega)
  exact Zea HR4.out ⟨B1,e1,B2q,e2,B3,e3,B4,e4,B5,e5,(some ⟨w2.heap.size+1,0,none⟩),0,rfl,hOW,hBW⟩
 case true =>
  have HW1:=Lib.hid hw1
  by_cases h40:la.length≤40
  case neg =>
   have HR4:=Lib.hid (ZhG (W:=(Zh.mk (Zd.mk d1 f1 ss1 d2 f2 ss2 st) P pp m)) h40)
   clear hw1 hok
   generalize ZaB (Zh.mk (Zd.mk d1 f1 ss1 d2 f2 ss2 st) P pp m) la=R at *
   go_enter Tryz.func76,Tryz.ntmps76
   go_wp2_with fail
   generalize e_:(World.alloc _ _)=w1
   symm at e_
   have k_a:=hkc e_ (Zb (bnk w.heap.size) _)
   have k_r:=hkc e_ (bnk (w.heap.size+1))
   have hX_:Zj w w1:=by rw [e_];exact boxy
   have hb_:Below w.heap.size w w1:=by rw [e_];exact bel
   have c_w1:=hX_.size
   clear e_ hX_
   refine (Zaz d1 f1 ss1 d2 f2 ss2 st P pp m B A1 A2 A3 A4 A5 c1 c2 c3 c4 c5 w1 (hS.below (hb_.mono hB)) (Nat.le_trans hB hb_.size)).mono ?_
   rintro e w2 ⟨B1,e1,B2q,e2,B3,e3,B4,e4,B5,e5,rfl,hon,b_⟩
   replace k_a:=Za k_a b_
   replace k_r:=Za k_r b_
   have c_w2:=b_.size
   replace hb_:=hb_.trans (b_.mono hb_.size)
   clear b_
   have o_c:=hon
   clear hon
   obtain ⟨x0a,x1a,x2a,x3a,x4a,x5a,x6a,x7a,x8a,x9a,xla⟩:=Zq k_a
   go_wp2_with fail
   clear x0a x1a x2a x3a x4a x5a x6a x7a x8a x9a xla
   have l_a:=Zg k_a
   have l_r:=Zg k_r
   have lt_a_w3:=Zg k_a
   have lt_r_w3:=Zg k_r
   generalize e_:(World.alloc _ _)=w3
   symm at e_
   replace k_a:=hkc e_ (Zb (Zb k_a _) _)
   replace k_r:=hkc e_ (Zb (Zb k_r _) _)
   have k_o:=hkc e_ (Zb (bnk w2.heap.size) _)
   have k_nb:=hkc e_ (bnk (w2.heap.size+1))
   have hX_:Zj w2 w3:=by rw [e_];exact boxy
   replace o_c:=o_c.boxy hX_
   replace hb_:Below w.heap.size w w3:=by rw [e_];exact bel
   have c_w3:=hX_.size
   clear l_a l_r e_ hX_
   have hltnb:=Zg k_nb
   have qba:=Zhs k_nb
   clear k_nb
   refine (Zz d1 f1 ss1 d2 f2 ss2 st P pp m B A1 A2 A3 A4 A5 c1 c2 c3 c4 c5 w3 (hS.below (hb_.mono hB)) (Nat.le_trans hB hb_.size)).mono ?_
   rw [HW1.out]
   rintro e w4 ⟨rfl,b_⟩
   replace k_a:=Za k_a b_
   replace k_r:=Za k_r b_
   replace k_o:=Za k_o b_
   replace o_c:=o_c.below b_
   have o_N:=qba.below b_
   have c_w4:=b_.size
   replace hb_:=hb_.trans (b_.mono hb_.size)
   clear qba b_
   obtain ⟨x0o,x1o,x2o,x3o,x4o,x5o,x6o,x7o,x8o,x9o,xlo⟩:=Zq k_o
   obtain ⟨⟨x0r,x1r,x2r,x3r,x4r,x5r,x6r,x7r,x8r,x9r,xlr⟩,f0r,f1r,f2r,f3r,f4r,f5r,f6r,f7r,f8r,f9r⟩:=Za2 k_r
   go_wp2
   have qca:=Zl k_r
   refine bodyPost_ret (v:=.tuple #[.agg #[.int .i64 d1,.int .i64 f1,.slice B1 ss1.length e1,.int .i64 d2,.int .i64 f2,.slice B2q ss2.length e2,.slice B3 st.length e3,.slice B4 P.length e4,.slice B5 pp.length e5,.int .i64 m],.slice (some ⟨w2.heap.size+1,0,none⟩) 0 0]) (by simp [results,Tryz.results76,go_sem, *]) rfl ?_
   clear x0o x1o x2o x3o x4o x5o x6o x7o x8o x9o xlo x0r x1r x2r x3r x4r x5r x6r x7r x8r x9r xlr f0r f1r f2r f3r f4r f5r f6r f7r f8r f9r
   obtain ⟨wE,heE⟩:∃ x,x=((((((((((w4.setCell ⟨w.heap.size+1,0,none⟩ (.int .i64 d1)).setCell ⟨w.heap.size+1,1,none⟩ (.int .i64 f1)).setCell ⟨w.heap.size+1,2,none⟩ (.slice B1 ss1.length e1)).setCell ⟨w.heap.size+1,3,none⟩ (.int .i64 d2)).setCell ⟨w.heap.size+1,4,none⟩ (.int .i64 f2)).setCell ⟨w.heap.size+1,5,none⟩ (.slice B2q ss2.length e2)).setCell ⟨w.heap.size+1,6,none⟩ (.slice B3 st.length e3)).setCell ⟨w.heap.size+1,7,none⟩ (.slice B4 P.length e4)).setCell ⟨w.heap.size+1,8,none⟩ (.slice B5 pp.length e5)).setCell ⟨w.heap.size+1,9,none⟩ (.int .i64 m)):=⟨_,rfl⟩
   have hBX:Zj w4 wE:=by rw [heE];exact boxy
   have hBW:Below w.heap.size w wE:=by rw [heE];exact bel
   have hsE:wE.heap.size=w4.heap.size:=by rw [heE];simp [World.setCell]
   rw [← heE]
   clear heE
   have hOW:ZdM wE w.heap.size wE.heap.size B1 e1 B2q e2 B3 e3 B4 e4 B5 e5 (some ⟨w2.heap.size+1,0,none⟩) 0 (Zd.mk d1 f1 ss1 d2 f2 ss2 st) P pp []:=ZdM.mk2 (o_c.boxy hBX) (o_N.boxy hBX) (by omega) (by omega)
   exact Zea HR4.out ⟨B1,e1,B2q,e2,B3,e3,B4,e4,B5,e5,(some ⟨w2.heap.size+1,0,none⟩),0,rfl,hOW,hBW⟩
  case pos =>
   have hr:=ZfB (W:=(Zh.mk (Zd.mk d1 f1 ss1 d2 f2 ss2 st) P pp m)) hw1 h40
   obtain ⟨R,hR⟩:∃ R,ZaB (Zh.mk (Zd.mk d1 f1 ss1 d2 f2 ss2 st) P pp m) la=R:=⟨_,rfl⟩
   rw [hR] at hr ⊢
   have HF0:Hid (Zcn (Zh.mk (Zd.mk d1 f1 ss1 d2 f2 ss2 st) P pp m) [] (la.drop 0)=R):=hr.symm
   have HOK:=Zk hok
   obtain ⟨i0,hi0,hz0,hz1,hz2⟩:=info_parts Zf2
   clear hw1 hok hr hR
   go_enter Tryz.func76,Tryz.ntmps76
   go_wp2_with fail
   generalize e_:(World.alloc _ _)=w1
   symm at e_
   have k_a:=hkc e_ (Zb (bnk w.heap.size) _)
   have k_r:=hkc e_ (bnk (w.heap.size+1))
   have hX_:Zj w w1:=by rw [e_];exact boxy
   have hb_:Below w.heap.size w w1:=by rw [e_];exact bel
   have c_w1:=hX_.size
   clear e_ hX_
   refine (Zaz d1 f1 ss1 d2 f2 ss2 st P pp m B A1 A2 A3 A4 A5 c1 c2 c3 c4 c5 w1 (hS.below (hb_.mono hB)) (Nat.le_trans hB hb_.size)).mono ?_
   rintro e w2 ⟨B1,e1,B2q,e2,B3,e3,B4,e4,B5,e5,rfl,hon,b_⟩
   replace k_a:=Za k_a b_
   replace k_r:=Za k_r b_
   have c_w2:=b_.size
   replace hb_:=hb_.trans (b_.mono hb_.size)
   clear b_
   have o_c:=hon
   clear hon
   obtain ⟨x0a,x1a,x2a,x3a,x4a,x5a,x6a,x7a,x8a,x9a,xla⟩:=Zq k_a
   go_wp2_with fail
   clear x0a x1a x2a x3a x4a x5a x6a x7a x8a x9a xla
   have l_a:=Zg k_a
   have l_r:=Zg k_r
   have lt_a_w3:=Zg k_a
   have lt_r_w3:=Zg k_r
   generalize e_:(World.alloc _ _)=w3
   symm at e_
   replace k_a:=hkc e_ (Zb (Zb k_a _) _)
   replace k_r:=hkc e_ (Zb (Zb k_r _) _)
   have k_o:=hkc e_ (Zb (bnk w2.heap.size) _)
   have k_nb:=hkc e_ (bnk (w2.heap.size+1))
   have hX_:Zj w2 w3:=by rw [e_];exact boxy
   replace o_c:=o_c.boxy hX_
   replace hb_:Below w.heap.size w w3:=by rw [e_];exact bel
   have c_w3:=hX_.size
   clear l_a l_r e_ hX_
   have hltnb:=Zg k_nb
   have qba:=Zhs k_nb
   clear k_nb
   refine (Zz d1 f1 ss1 d2 f2 ss2 st P pp m B A1 A2 A3 A4 A5 c1 c2 c3 c4 c5 w3 (hS.below (hb_.mono hB)) (Nat.le_trans hB hb_.size)).mono ?_
   rw [HW1.out]
   rintro e w4 ⟨rfl,b_⟩
   replace k_a:=Za k_a b_
   replace k_r:=Za k_r b_
   replace k_o:=Za k_o b_
   replace o_c:=o_c.below b_
   have o_N:=qba.below b_
   have c_w4:=b_.size
   replace hb_:=hb_.trans (b_.mono hb_.size)
   clear qba b_
   go_wp2_with fail
   go_loopw [7,8] (fun nums i wr=>∃ (k:Nat) (d1k f1k:Int) (ss1k:List ByteArray) (d2k f2k:Int) (ss2k:List ByteArray) (stk:List Zv) (Pk:List Zr) (ppk:List Zt) (mk:Int) (xk:List Int) (H1:Option Addr) (u1:Nat) (H2:Option Addr) (u2:Nat) (H3:Option Addr) (u3:Nat) (H4:Option Addr) (u4:Nat) (H5:Option Addr) (u5:Nat) (H6:Option Addr) (u6:Nat) (l1 h1 l2 h2:Nat),k≤la.length∧i=.int .i64 k∧nums=.slice H6 xk.length u6∧Hid (xk.length=k)∧Hid (Zcn (Zh.mk (Zd.mk d1k f1k ss1k d2k f2k ss2k stk) Pk ppk mk) xk (la.drop k)=R)∧Hid (ZaI (Zd.mk d1k f1k ss1k d2k f2k ss2k stk) Pk ppk 1048576)∧wr.heap[w2.heap.size]?=some (.cells #[.int .i64 d1k,.int .i64 f1k,.slice H1 ss1k.length u1,.int .i64 d2k,.int .i64 f2k,.slice H2 ss2k.length u2,.slice H3 stk.length u3,.slice H4 Pk.length u4,.slice H5 ppk.length u5,.int .i64 mk] 33 (0,0))∧wr.heap[w.heap.size+1]?=some (.cells #[.int .i64 0,.int .i64 0,.slice none 0 0,.int .i64 0,.int .i64 0,.slice none 0 0,.slice none 0 0,.slice none 0 0,.slice none 0 0,.int .i64 0] 33 (0,0))∧Zau wr l1 h1 H1 u1 H2 u2 H3 u3 H4 u4 H5 u5 (Zd.mk d1k f1k ss1k d2k f2k ss2k stk) Pk ppk∧ZdI wr l2 h2 H6 u6 xk∧(h1≤l2∨h2≤l1)∧(w.heap.size≤l1∧h1≤wr.heap.size∧w.heap.size≤l2∧h2≤wr.heap.size∧l2≤wr.heap.size)∧w4.heap.size≤wr.heap.size∧Below w.heap.size w wr) (fun _ i _=>la.length - (intOf i).toNat)
   case atStart=>exact ⟨0,d1,f1,ss1,d2,f2,ss2,st,P,pp,m,[],B1,e1,B2q,e2,B3,e3,B4,e4,B5,e5,_,0,_,_,_,_,Nat.zero_le _,rfl,rfl,rfl,HF0,HOK,k_o,k_r,o_c,o_N,by omega,by omega,Nat.le_refl _,hb_⟩
   case round =>
    obtain ⟨k,d1k,f1k,ss1k,d2k,f2k,ss2k,stk,Pk,ppk,mk,xk,H1,u1,H2,u2,H3,u3,H4,u4,H5,u5,H6,u6,l1,h1,l2,h2,hk,rfl,rfl,HXL,HF,HOKK,hko,hkr,hoW,hoN,hd12,hr12,hwr,hbr⟩:=hrel
    by_cases hlt:k<la.length
    ·obtain ⟨hkl,ad,rfl,hab,hc0,hc1,hc2⟩:=(hX.below (hbr.mono hB)).at_ hlt
     have hst:=Zhk (W:=(Zh.mk (Zd.mk d1k f1k ss1k d2k f2k ss2k stk) Pk ppk mk)) (xs:=xk) (l:=la) hkl
     rw [HF.out] at hst
     have hokx:=Ze3 (Zh.mk (Zd.mk d1k f1k ss1k d2k f2k ss2k stk) Pk ppk mk) la[k].k la[k].a la[k].b HOKK.out
     have hcall:=fun (W:World) (hW1:ZaF W W.heap.size H1 H2 H3 H4 u4 H5 (Zd.mk d1k f1k ss1k d2k f2k ss2k stk) Pk ppk)=>ZoH d1k f1k ss1k d2k f2k ss2k stk Pk ppk mk la[k].k la[k].a la[k].b W.heap.size H1 H2 H3 H4 H5 u1 u2 u3 u4 u5 W hW1 (Nat.le_refl _) HOKK.out
     generalize Zs (Zh.mk (Zd.mk d1k f1k ss1k d2k f2k ss2k stk) Pk ppk mk) la[k].k la[k].a la[k].b=Q at *
     obtain ⟨⟨⟨d1r,f1r,ss1r,d2r,f2r,ss2r,str⟩,Pr,ppr,mr⟩,rb⟩:=Q
     simp only at hcall hst hokx
     have HST:=Lib.hid hst
     have HCALL:=Zk hcall
     have HOKX:=Zk hokx
     clear hst hcall hokx HF
     have qda:=hbr.size
     obtain ⟨hxo0,hxo1,hxo2,hxo3,hxo4,hxo5,hxo6,hxo7,hxo8,hxo9,hxol⟩:=Zq hko
     go_upto_region 8 with fail
     go_cut [9,10] (fun s9 s10 wx=>∃ (g9:Nat) (G1:Option Addr) (q1:Nat) (G2:Option Addr) (q2:Nat) (G3:Option Addr) (q3:Nat) (G4:Option Addr) (q4:Nat) (G5:Option Addr) (q5:Nat),s9=.pointer (some ⟨g9,0,none⟩)∧s10=.int .i64 rb∧wx.heap[g9]?=some (.cells #[.int .i64 d1r,.int .i64 f1r,.slice G1 ss1r.length q1,.int .i64 d2r,.int .i64 f2r,.slice G2 ss2r.length q2,.slice G3 str.length q3,.slice G4 Pr.length q4,.slice G5 ppr.length q5,.int .i64 mr] 33 (0,0))∧Zau wx (wr.heap.size) (wx.heap.size) G1 q1 G2 q2 G3 q3 G4 q4 G5 q5 (Zd.mk d1r f1r ss1r d2r f2r ss2r str) Pr ppr∧Below wr.heap.size wr wx)
     case first =>
      have hq1:(ad.add (k * 3)).block<wr.heap.size:=by rw [Zn];omega
      go_region_held3 (fun W=>(∀ p:Addr,p.block<wr.heap.size→W.cell? p=(wr).cell? p)∧(∀ p:Addr,p.block<wr.heap.size→W.frozen? p=(wr).frozen? p)∧Below (wr.heap.size) (wr) W) (exact Zam bel) ((go_at_call 126;have hq:=(‹_∧_∧Below _ _ _›).2.2;refine (Ze HCALL _ ((hoW.below hq).rd ((Ze HOKK).more (by omega)))).mono ?_;rintro e wf1 ⟨G1,q1,G2,q2,G3,q3,G4,q4,G5,q5,rfl,horf1,hbf1⟩;(have hof1:=horf1.wide (lo':=wr.heap.size) (hi':=wf1.heap.size) (by first|exact hq.size|exact Nat.le_refl _) (Nat.le_refl _));clear horf1;have hqsf:=hq.size;have hbsf:=hbf1.size;(try simp at hqsf);(try simp at hbsf);obtain ⟨hcbf1,hfbf1⟩:=Zw hbf1;(try (have qna:wr.heap.size<wf1.heap.size:=(by omega)))))
      all_goals (go_wp2_with fail)
      all_goals (go_meet)
      all_goals (
       refine ⟨_,G1,q1,G2,q2,G3,q3,G4,q4,G5,q5,rfl,rfl,?_⟩
       first
        |((with_reducible refine Zqg ?_ hof1 ?_ ?_);(first|exact bel);(first|rfl|(simp;first|done|fail));(first|omega|(simp;first|done|fail)|(simp;omega)))
        |((with_reducible apply Zp9 (ho:=hof1));(case hk=>(focus ((repeat (first|(with_reducible exact Zav _ _ (by first|rfl|(simp;first|done|fail)))|(with_reducible refine Za ?_ hbf1)|(with_reducible refine ZaK ?_)|(with_reducible refine Zb ?_ _)));(first|done|fail))));(case hb=>exact bel);(case hg=>first|omega|(simp;first|done|fail)|(simp;omega))))
     obtain ⟨g9,G1,q1,G2,q2,G3,q3,G4,q4,G5,q5,rfl,rfl,hk9,ho9,hb9⟩:=hcut
     obtain ⟨w7,hwc⟩:∃ W,W=wc:=⟨_,rfl⟩
     subst hwc
     clear hxo0 hxo1 hxo2 hxo3 hxo4 hxo5 hxo6 hxo7 hxo8 hxo9 hxol hc0 hc1 hc2
     have hko7:=Za hko hb9
     have hkr7:=Za hkr hb9
     have hoN7:=hoN.below hb9
     have hbw7:Below w.heap.size w w7:=hbr.trans (hb9.mono qda)
     have qka:=hbw7.size
     have qla:wr.heap.size≤w7.heap.size:=hb9.size
     clear hko hkr hoN hoW hb9
     obtain ⟨⟨x0o,x1o,x2o,x3o,x4o,x5o,x6o,x7o,x8o,x9o,xlo⟩,f0o,f1o,f2o,f3o,f4o,f5o,f6o,f7o,f8o,f9o⟩:=Za2 hko7
     obtain ⟨x0nx,x1nx,x2nx,x3nx,x4nx,x5nx,x6nx,x7nx,x8nx,x9nx,xlnx⟩:=Zq hk9
     go_wp2_with (at_builtin;refine Ze ?_)
     clear x0o x1o x2o x3o x4o x5o x6o x7o x8o x9o xlo f0o f1o f2o f3o f4o f5o f6o f7o f8o f9o x0nx x1nx x2nx x3nx x4nx x5nx x6nx x7nx x8nx x9nx xlnx
     clear hk9
     have l_o:=Zg hko7
     have l_r:=Zg hkr7
     have lt_o_w21:=Zg hko7
     have lt_r_w21:=Zg hkr7
     have bx_o:=Zl hko7
     generalize e_:(World.alloc _ _)=w21
     symm at e_
     have k_o:w21.heap[w2.heap.size]?=some (.cells #[.int .i64 d1r,.int .i64 f1r,.slice G1 ss1r.length q1,.int .i64 d2r,.int .i64 f2r,.slice G2 ss2r.length q2,.slice G3 str.length q3,.slice G4 Pr.length q4,.slice G5 ppr.length q5,.int .i64 mr] 33 (0,0)):=by rw [e_];have hq9:=(Zb (Zu (Zu (Zu (Zu (Zu (Zu (Zu (Zu (Zu (Zu hko7 0 (.int .i64 d1r)) 1 (.int .i64 f1r)) 2 (.slice G1 ss1r.length q1)) 3 (.int .i64 d2r)) 4 (.int .i64 f2r)) 5 (.slice G2 ss2r.length q2)) 6 (.slice G3 str.length q3)) 7 (.slice G4 Pr.length q4)) 8 (.slice G5 ppr.length q5)) 9 (.int .i64 mr)) (.cells #[.int .i64 rb] 3));simpa using hq9
     have k_r:=hkc e_ (Zb (Zf (Zf (Zf (Zf (Zf (Zf (Zf (Zf (Zf (Zf hkr7 (show ¬w.heap.size+1=w2.heap.size by omega) _) (show ¬w.heap.size+1=w2.heap.size by omega) _) (show ¬w.heap.size+1=w2.heap.size by omega) _) (show ¬w.heap.size+1=w2.heap.size by omega) _) (show ¬w.heap.size+1=w2.heap.size by omega) _) (show ¬w.heap.size+1=w2.heap.size by omega) _) (show ¬w.heap.size+1=w2.heap.size by omega) _) (show ¬w.heap.size+1=w2.heap.size by omega) _) (show ¬w.heap.size+1=w2.heap.size by omega) _) (show ¬w.heap.size+1=w2.heap.size by omega) _) _)
     have k_lit:=hkc e_ (bnk w7.heap.size)
     have hX_:Zj w7 w21:=by rw [e_];exact boxy
     have o_n:=ho9.boxy hX_
     have o_N:=hoN7.boxy hX_
     have hb_:Below w.heap.size w w21:=by rw [e_];exact Below.alloc (bel) (by simp [World.setCell];omega) _
     have c_w21:=hX_.size
     clear l_o l_r bx_o e_ hko7 hkr7 hX_ ho9 hoN7 hbw7
     have hRL:=Zee k_lit (n:=1) (size:=1) rfl
     have hZ:=o_N.row
     refine Zk ?_
     refine ZaV _ rfl (.tmp 40) (.tmp 42) _ rfl l2 3 i0 _ 1 8 Tryz.underlying37 hi0 hz0 hz1 hz2 rfl (by omega) (.slice H6 xk.length u6) xk.length (Zd7 xk) rfl hZ w21.heap.size (some ⟨w7.heap.size,0,none⟩) 1 1 [.int .i64 rb] rfl hRL (Zmd _) (by have hxl9:=HXL.out;unfold maxLen;omega) (by have hxl9:=HXL.out;omega) (by omega) ?_
     intro vz w90 hoa hga hata
     rw [ZhN] at hoa
     obtain ⟨A9,c9,kz,rfl,hoq,hkz,hkz2⟩:=ZdI.appended (w0:=w21) o_N hoa (by simp) (by omega) hata
     have hWt:Zcv l2 h2 w21 w90:=Zcv.of_grown hZ (by decide) hga (Nat.le_refl _) o_N.top
     have hkoE:=Zak k_o hga hZ (by decide)
     have hkrE:=Zak k_r hga hZ (by decide)
     have hoWE:=o_n.within hWt (by omega)
     have qha:w21.heap.size≤w90.heap.size:=hga.size
     have hBW:Below w.heap.size w w90:=hb_.trans (hWt.below (by omega) (by omega))
     clear hRL hZ hata hoa hga
     go_wp2
     go_roundw
     case rel=>exact ⟨k+1,d1r,f1r,ss1r,d2r,f2r,ss2r,str,Pr,ppr,mr,xk++[rb],G1,q1,G2,q2,G3,q3,G4,q4,G5,q5,A9,c9,_,_,kz,kz+1,by omega,by go_num,by simp,(by unfold Hid;have hxl9:=HXL.out;simp;omega),HST.out.symm,Ze HOKX,hkoE,hkrE,hoWE,hoq,by omega,by omega,by omega,hBW⟩
     case measure=>simp [intOf];omega
    ·have hke:k=la.length:=by omega
     subst hke
     have hfin:=Zh1 (W:=(Zh.mk (Zd.mk d1k f1k ss1k d2k f2k ss2k stk) Pk ppk mk)) (xs:=xk) (l:=la) (Nat.le_refl _)
     rw [HF.out] at hfin
     have HR4:=Lib.hid hfin
     clear hfin HF
     have qda:=hbr.size
     obtain ⟨x0o,x1o,x2o,x3o,x4o,x5o,x6o,x7o,x8o,x9o,xlo⟩:=Zq hko
     obtain ⟨⟨x0r,x1r,x2r,x3r,x4r,x5r,x6r,x7r,x8r,x9r,xlr⟩,f0r,f1r,f2r,f3r,f4r,f5r,f6r,f7r,f8r,f9r⟩:=Za2 hkr
     go_wp2
     have qca:=Zl hkr
     refine bodyPost_ret (v:=.tuple #[.agg #[.int .i64 d1k,.int .i64 f1k,.slice H1 ss1k.length u1,.int .i64 d2k,.int .i64 f2k,.slice H2 ss2k.length u2,.slice H3 stk.length u3,.slice H4 Pk.length u4,.slice H5 ppk.length u5,.int .i64 mk],.slice H6 xk.length u6]) (by simp [results,Tryz.results76,go_sem, *]) rfl ?_
     clear x0o x1o x2o x3o x4o x5o x6o x7o x8o x9o xlo x0r x1r x2r x3r x4r x5r x6r x7r x8r x9r xlr f0r f1r f2r f3r f4r f5r f6r f7r f8r f9r
     obtain ⟨wE,heE⟩:∃ x,x=((((((((((wr.setCell ⟨w.heap.size+1,0,none⟩ (.int .i64 d1k)).setCell ⟨w.heap.size+1,1,none⟩ (.int .i64 f1k)).setCell ⟨w.heap.size+1,2,none⟩ (.slice H1 ss1k.length u1)).setCell ⟨w.heap.size+1,3,none⟩ (.int .i64 d2k)).setCell ⟨w.heap.size+1,4,none⟩ (.int .i64 f2k)).setCell ⟨w.heap.size+1,5,none⟩ (.slice H2 ss2k.length u2)).setCell ⟨w.heap.size+1,6,none⟩ (.slice H3 stk.length u3)).setCell ⟨w.heap.size+1,7,none⟩ (.slice H4 Pk.length u4)).setCell ⟨w.heap.size+1,8,none⟩ (.slice H5 ppk.length u5)).setCell ⟨w.heap.size+1,9,none⟩ (.int .i64 mk)):=⟨_,rfl⟩
     have hBX:Zj wr wE:=by rw [heE];exact boxy
     have hBW:Below w.heap.size w wE:=by rw [heE];exact bel
     have hsE:wE.heap.size=wr.heap.size:=by rw [heE];simp [World.setCell]
     rw [← heE]
     clear heE
     have hOW:ZdM wE w.heap.size wE.heap.size H1 u1 H2 u2 H3 u3 H4 u4 H5 u5 H6 u6 (Zd.mk d1k f1k ss1k d2k f2k ss2k stk) Pk ppk xk:=ZdM.mk2 (hoW.boxy hBX) (hoN.boxy hBX) (by omega) (by omega)
     exact Zea HR4.out ⟨H1,u1,H2,u2,H3,u3,H4,u4,H5,u5,H6,u6,rfl,hOW,hBW⟩
end Go.Proofs.YtlimlolciekimaaGreatDoor
