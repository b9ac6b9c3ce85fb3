/- Contracts of the program's and the reference's functions (Area1, Area2, Area3). -/
import Derived.Deep.RegionHeld3
import Derived.Deep.Upon
import Derived.IntWalk
import Derived.Test.YtccjedongkokoaaRows
import Derived.Test.YtccjedongkokoaaQTb
namespace Go.Proofs.Ytccjedongkokoaa
open Go.ChangeShapes Go.WideShapes Go.ChangeAt Go.RowKit
set_option linter.unusedVariables false
set_option maxRecDepth 10000
def sameFrame (a b : List UInt8) : Bool := (isStrip a && isStrip b) && ((cnt 100 a == cnt 100 b) && (cnt 102 a == cnt 102 b))
def hgt (u : Int) : List UInt8 → Int
  | [] => u
  | c :: l => if c = 102 then hgt u l else hgt (u - 1) l
def hts (u : Int) : List UInt8 → List Int
  | [] => []
  | c :: l => if c = 102 then u :: hts u l else hts (u - 1) l
def htsOf (l : List UInt8) : List Int := hts (cnt 100 l) l
def ints (l : List Int) : List Value := l.map (Value.int .i64)
def FreshInts (base : Nat) (l : List Int) (w : World) (e : Ending) (w' : World) : Prop :=
  ∃ A c, e = .returned (.slice A l.length c) ∧ w'.ownsRow base 3 1 (.slice A l.length c) l.length (ints l) ∧ Below w.heap.size w w'
end Go.Proofs.Ytccjedongkokoaa
namespace Go.Proofs.Ytccjedongkokoaa
open Go.ChangeShapes Go.WideShapes Go.ChangeAt Go.RowKit
set_option linter.unusedVariables false
set_option maxRecDepth 10000
def areaL : List Int → List Int → Int
  | a :: l, b :: m => max (a - b) (b - a) + areaL l m
  | _, _ => 0
def areaOf (s t : List UInt8) : Int := if sameFrame s t = true then areaL (htsOf s) (htsOf t) else -1
theorem ints_at {w : World} {B : Nat} {A : Option Addr} {n k : Nat} {l : List Int} (h : Reads w B 1 A n (ints l)) (hk : k < n) : ∃ (hk' : k < l.length) (ad : Addr), A = some ad ∧ ad.block < B ∧ w.cell? (ad.add k) = some (.int .i64 l[k]) := by
  obtain ⟨ad, u, rfl, hb, hx, hc⟩ := h.at_ hk
  have hl : k < l.length := by
    have := h.1
    simp [ints] at this
    omega
  refine ⟨hl, ad, rfl, hb, ?_⟩
  rw [hc]
  unfold ints at hx
  rw [List.getElem?_map, List.getElem?_eq_getElem hl] at hx
  simpa using hx.symm
end Go.Proofs.Ytccjedongkokoaa
