/- The drawer's cursor: l01New, l01Byte, l01Below, l01Once. -/
import Derived.Test.YteffbjddgdjkmaaFrame
import Derived.Laws.BitsLemmas
namespace Go.Proofs.Yteffbjddgdjkmaa
open Go.ChangeShapes Go.WideShapes Go.ChangeAt Go.RowKit
set_option linter.unusedVariables false
set_option maxRecDepth 10000

theorem i64_and255 (n : Int) : bits .and .i64 n 255 = n % 256 := by
  have h : (BitVec.ofInt 64 255).toNat = 2 ^ 8 - 1 := by decide
  have key : (BitVec.ofInt 64 n &&& BitVec.ofInt 64 255).toNat = (n % ((2 ^ 64 : Nat) : Int)).toNat % 2 ^ 8 := by
    rw [BitVec.toNat_and, BitVec.toNat_ofInt, h, Nat.and_two_pow_sub_one_eq_mod]
  show IntKind.i64.wrap ((BitVec.ofInt 64 n &&& BitVec.ofInt 64 255).toNat : Nat) = n % 256
  rw [key, IntKind.wrap_i64]
  omega
theorem and255_bd (n : Int) : 0 ≤ bits .and .i64 n 255 ∧ bits .and .i64 n 255 ≤ 255 := by rw [i64_and255]; omega
/-- bytes as they can be read -/
structure Code (w : World) (B : Nat) (A : Option Addr) (bs : List Int) : Prop where
  rd : Reads w B 1 A bs.length (bs.map (Value.int .u8))
  nb : bs.length ≤ 1048576
  bd : ∀ x ∈ bs, 0 ≤ x ∧ x ≤ 255
theorem Code.below {w w' : World} {B : Nat} {A : Option Addr} {bs : List Int} (h : Code w B A bs) (hb : Below B w w') : Code w' B A bs := ⟨h.rd.below hb, h.nb, h.bd⟩
theorem Code.more {w : World} {B B' : Nat} {A : Option Addr} {bs : List Int} (h : Code w B A bs) (hb : B ≤ B') : Code w B' A bs := ⟨h.rd.more hb, h.nb, h.bd⟩
theorem Code.at_ {w : World} {B k : Nat} {A : Option Addr} {bs : List Int} (h : Code w B A bs) (hk : k < bs.length) : ∃ ad, A = some ad ∧ ad.block < B ∧ w.cell? (ad.add k) = some (.int .u8 bs[k]) ∧ 0 ≤ bs[k] ∧ bs[k] ≤ 255 := by
  obtain ⟨ad, u, rfl, hb, hx, hc⟩ := h.rd.at_ hk
  refine ⟨ad, rfl, hb, ?_, (h.bd _ (List.getElem_mem hk)).1, (h.bd _ (List.getElem_mem hk)).2⟩
  rw [List.getElem?_map, List.getElem?_eq_getElem hk] at hx
  rw [hc, ← hx]; rfl
/-- a cursor over bytes, in block g; all below B is kept -/
structure Cur (w : World) (g B : Nat) (A : Option Addr) (c : Nat) (bs : List Int) : Prop where
  code : Code w B A bs
  lo : B ≤ g
  blk : ∃ i h : Int, 0 ≤ i ∧ i ≤ bs.length ∧ w.heap[g]? = some (.cells #[.slice A bs.length c, .int .i64 i, .int .i64 h] 145 (0, 0))
theorem cur_notin : 145 ∉ rowTys := by decide
section
variable {w w' : World} {g B : Nat} {A : Option Addr} {c : Nat} {bs : List Int}
theorem Cur.lt (h : Cur w g B A c bs) : g < w.heap.size := by
  obtain ⟨i, q, _, _, hk⟩ := h.blk
  exact blk_lt hk
theorem Cur.below (h : Cur w g B A c bs) (hb : Below w.heap.size w w') : Cur w' g B A c bs := by
  obtain ⟨i, q, h0, h1, hk⟩ := h.blk
  have hl := h.lo
  have hg := blk_lt hk
  exact ⟨h.code.below (hb.mono (by omega)), h.lo, i, q, h0, h1, blk_next hk hb⟩
theorem Cur.alloc (h : Cur w g B A c bs) (o : Obj) : Cur (w.alloc o) g B A c bs := h.below ((Below.refl _ _).alloc (Nat.le_refl _) o)
theorem Cur.drew (h : Cur w g B A c bs) : Cur w.drew g B A c bs := ⟨⟨h.code.rd.drew, h.code.nb, h.code.bd⟩, h.lo, h.blk⟩
theorem Cur.drewN (h : Cur w g B A c bs) (k : Nat) : Cur (w.drewN k) g B A c bs := ⟨⟨h.code.rd.drewN k, h.code.nb, h.code.bd⟩, h.lo, h.blk⟩
theorem Cur.store {i : Int} (h : Cur w g B A c bs) (hw : w'.heap[g]? = w.heap[g]?) (hc : ∀ p : Addr, p.block < B → w'.cell? p = w.cell? p) : Cur w' g B A c bs := by
  obtain ⟨i, q, h0, h1, hk⟩ := h.blk
  exact ⟨⟨h.code.rd.keep hc, h.code.nb, h.code.bd⟩, h.lo, i, q, h0, h1, hw.trans hk⟩
end
end Go.Proofs.Yteffbjddgdjkmaa
