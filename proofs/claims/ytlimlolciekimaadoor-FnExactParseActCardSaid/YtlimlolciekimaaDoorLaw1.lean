/- The contracts of the law package's helpers over strings and cards: marks, equality, sizes, copies. -/
import Derived.Test.YtlimlolciekimaaDoorCard1
import Derived.Deep.RegionHeld3
namespace Go.Proofs.YtlimlolciekimaaDoor
open Go.ChangeShapes Go.WideShapes Go.ChangeAt Go.RowKit
set_option linter.unusedVariables false
set_option maxRecDepth 10000

def digs : Nat → Nat → List UInt8 → List UInt8
  | 0, _, acc => acc
  | f + 1, k, acc => if k = 0 then acc else digs f (k / 10) ((48 + k % 10).toUInt8 :: acc)
theorem digs_zero (f : Nat) (acc : List UInt8) : digs f 0 acc = acc := by cases f <;> simp [digs]
/-- what markText returns -/
def markL (k : Int) : List UInt8 := if k ≤ 0 then [109, 48] else 109 :: digs k.toNat k.toNat []
def markT (k : Int) : ByteArray := ⟨(markL k).toArray⟩

theorem size_one (x : UInt8) : (⟨#[x]⟩ : ByteArray).size = 1 := rfl
theorem conv_one (x : Int) (W : World) (h0 : 0 ≤ x) (h1 : x ≤ 255) :
    (convert 49 9 (.slice (some ⟨W.heap.size, 0, none⟩) 1 1)).run Tryd.prog (W.alloc (.cells #[.int .u8 x] 5)) = .ok (.string ⟨#[x.toNat.toUInt8]⟩) (W.alloc (.cells #[.int .u8 x] 5)) := by
  have h := run_convert_bytes_back (P := Tryd.prog) (W.alloc (.cells #[.int .u8 x] 5)) 49 9 5 ⟨W.heap.size, 0, none⟩ 1 [x.toNat.toUInt8] Tryd.underlying49 Tryd.underlying5 Tryd.underlying9
    (fun j hj => by
      have : j = 0 := by simp at hj; omega
      subst this
      show (W.alloc (.cells #[.int .u8 x] 5)).cell? ⟨W.heap.size, 0, none⟩ = _
      rw [World.cell?_alloc_mark]
      obtain ⟨X, rfl⟩ := Int.eq_ofNat_of_zero_le h0
      have hX : X < 256 := by omega
      simp [Nat.mod_eq_of_lt hX])
  exact h


theorem own_cell {w : World} {base : Nat} {e : TypeId} {g n c j : Nat} {xs : List Value} (h : w.ownsRow base e 1 (.slice (some ⟨g, 0, none⟩) n c) n xs) (hj : j < n) : ∃ u, w.cell? ⟨g, j, none⟩ = some u := by
  have hl := h.1
  rw [h.cellAt j (by omega), List.getElem?_eq_getElem (by omega)]
  exact ⟨_, rfl⟩

/-- the cells that markStringS leaves -/
def marks (k : Int) (n : Nat) : List Value := (List.range n).map fun i => Value.string (markT (k + (i : Nat)))
theorem marks_len (k : Int) (n : Nat) : (marks k n).length = n := by simp [marks]
theorem marks_succ (k : Int) (n : Nat) : marks k (n + 1) = marks k n ++ [.string (markT (k + n))] := by
  simp [marks, List.range_succ]
theorem marks_step (k : Int) (i : Nat) (xs : List Value) (hi : i < xs.length) : (marks k i ++ xs.drop i).set i (.string (markT (k + i))) = marks k (i + 1) ++ xs.drop (i + 1) := by
  rw [marks_succ, List.set_append, if_neg (by simp [marks_len]), marks_len, Nat.sub_self, List.drop_eq_getElem_cons hi, List.set_cons_zero, List.append_assoc]
  rfl

def Marked (base : Nat) (v : Value) (n : Nat) (k : Int) (w : World) (e : Ending) (w' : World) : Prop :=
  e = .returned (.int .i64 (k + n)) ∧ w'.ownsRow base 9 1 v n (marks k n) ∧ w.grownBy w' v.ownBlock





def eqSS (ss ts : List ByteArray) : Bool := decide (ss = ts)



/-- how many letters strings have together -/
def tot : List ByteArray → Nat
  | [] => 0
  | s :: r => s.size + tot r
theorem tot_append (a b : List ByteArray) : tot (a ++ b) = tot a + tot b := by
  induction a with
  | nil => simp [tot]
  | cons x r ih => simp only [List.cons_append, tot, ih]; omega
theorem tot_mem {s : ByteArray} {l : List ByteArray} (h : s ∈ l) : s.size ≤ tot l := by
  induction l with
  | nil => cases h
  | cons x r ih =>
    rcases List.mem_cons.1 h with rfl | h
    · simp only [tot]; omega
    · have := ih h; simp only [tot]; omega
def szStrs (ss : List ByteArray) (left : Int) : Int := if left - ss.length - tot ss < 0 then -1 else left - ss.length - tot ss


theorem info_str : (Tryd.prog.info? 9).map (fun i => (i.zero, i.size, i.bytes)) = some (some (.string ByteArray.empty), 1, 16) := by kernel_rfl

/-- a []string of the call's own -/
def FreshStrs (base : Nat) (ss : List ByteArray) (w : World) (e : Ending) (w' : World) : Prop :=
  ∃ A c, e = .returned (.slice A ss.length c) ∧ w'.ownsRow base 9 1 (.slice A ss.length c) ss.length (ss.map Value.string) ∧ Below w.heap.size w w'

/-- a card of the call's own -/
def FreshCard (base : Nat) (d f : Int) (ss : List ByteArray) (w : World) (e : Ending) (w' : World) : Prop :=
  ∃ A c, e = .returned (.agg #[.int .i64 d, .int .i64 f, .slice A ss.length c]) ∧ w'.ownsRow base 9 1 (.slice A ss.length c) ss.length (ss.map Value.string) ∧ Below w.heap.size w w'
end Go.Proofs.YtlimlolciekimaaDoor
