/- Rows of four cells: copy and clear; what a row is behind stores. -/
import Derived.Test.YtobmnnihmbdfjaaGreatCRows
import Derived.Deep.RegionLaw
import Derived.Deep.Cut
import Derived.Lib.SliceRun
import Derived.Lib.AppendZeros
import Derived.Lib.Overlaps
import Derived.Laws.Externs
import Derived.Laws.IdiomCopy
import Derived.Shelf.Spec.SlicesInsertGrow
set_option linter.all false
namespace Go.Proofs.YtobmnnihmbdfjaaGreat
open Go.RowKit

theorem heap_setCells (b : Nat) (t : TypeId) : ∀ (vs : List Value) (o : Nat) (w : World) (cur : Array Value), w.heap[b]? = some (.cells cur t (0, 0)) →
    ∃ cur' : Array Value, (w.setCells b o vs).heap[b]? = some (.cells cur' t (0, 0)) ∧ cur'.size = cur.size ∧ ∀ j, cur'[j]? = if o ≤ j ∧ j < o + vs.length ∧ j < cur.size then vs[j - o]? else cur[j]?
  | [], o, w, cur, h => ⟨cur, h, rfl, fun j => by rw [if_neg (by simp; omega)]⟩
  | v :: r, o, w, cur, h => by
    obtain ⟨cur', h1, h2, h3⟩ := heap_setCells b t r (o + 1) (w.setCell ⟨b, o, none⟩ v) (cur.setIfInBounds o v) (setAt h o v)
    refine ⟨cur', by rw [World.setCells]; exact h1, by simpa using h2, fun j => ?_⟩
    rw [h3 j]
    simp only [Array.size_setIfInBounds, List.length_cons]
    by_cases c : o ≤ j ∧ j < o + (r.length + 1) ∧ j < cur.size
    · rw [if_pos c]
      by_cases d : j = o
      · subst d
        rw [if_neg (by omega)]
        simp [c.2.2]
      · rw [if_pos (by omega)]
        obtain ⟨k, rfl⟩ : ∃ k, j = o + 1 + k := ⟨j - o - 1, by omega⟩
        rw [show o + 1 + k - o = k + 1 by omega, show o + 1 + k - (o + 1) = k by omega]; simp
    · rw [if_neg c, if_neg (by omega)]
      by_cases d : j = o
      · subst d
        have : cur.size ≤ j := by omega
        simp [this]
      · rw [Array.getElem?_setIfInBounds]; simp [Ne.symm d]
theorem chg_setCells (b : Nat) : ∀ (vs : List Value) (o : Nat) (w : World), Chg [b] w (w.setCells b o vs)
  | [], _, _ => Chg.refl _ _
  | v :: r, o, w => by
    rw [World.setCells]
    exact ((Chg.refl [b] w).setCell (by simp) v).trans (chg_setCells b r (o + 1) _)

/-- A row, cell by cell. -/
theorem crow_of {w : World} {B g cap : Nat} {cur : Array Value} {l : List CellM} (hg : B ≤ g) (hh : w.heap[g]? = some (.cells cur 144 (0, 0))) (hn : l.length ≤ cap) (hm : cap ≤ maxLen) (hs : cur.size = cap * 4)
    (hc : ∀ q c, l[q]? = some c → ∀ r, r < 4 → cur[q * 4 + r]? = (cellCells c)[r]?) : CRow w B (.slice (some ⟨g, 0, none⟩) l.length cap) l := by
  refine ⟨flat_len4 l, .inr ⟨g, cap, cur, rfl, hg, hh, hn, hm, hs, ?_⟩⟩
  apply List.ext_getElem?
  intro j
  rcases Nat.lt_or_ge j (l.length * 4) with c | c
  · rw [List.getElem?_take, if_pos c, Array.getElem?_toList]
    have hj : j = j / 4 * 4 + j % 4 := by omega
    have hq : j / 4 < l.length := by omega
    rw [hj, flat_get l (j / 4) l[j / 4] (List.getElem?_eq_getElem hq) (j % 4) (by omega)]
    exact hc (j / 4) _ (List.getElem?_eq_getElem hq) (j % 4) (by omega)
  · rw [List.getElem?_eq_none (by simp; omega), List.getElem?_eq_none (by rw [flat_len4]; exact c)]
theorem crow_get {w : World} {B : Nat} {v : Value} {l : List CellM} (h : CRow w B v l) : (v = .slice none 0 0 ∧ l = []) ∨ ∃ g cap cur, v = .slice (some ⟨g, 0, none⟩) l.length cap ∧ B ≤ g ∧ w.heap[g]? = some (.cells cur 144 (0, 0)) ∧ l.length ≤ cap ∧ cap ≤ maxLen ∧ cur.size = cap * 4 ∧
    ∀ q c, l[q]? = some c → ∀ r, r < 4 → cur[q * 4 + r]? = (cellCells c)[r]? := by
  rcases h.2 with ⟨hv, h0⟩ | ⟨g, cap, cur, hv, hb, hh, h1, h2, h3, h4⟩
  · exact .inl ⟨hv, List.length_eq_zero_iff.1 h0⟩
  · refine .inr ⟨g, cap, cur, hv, hb, hh, h1, h2, h3, fun q c hc r hr => ?_⟩
    have hi : q < l.length := (List.getElem?_eq_some_iff.1 hc).1
    rw [← flat_get l q c hc r hr, ← h4, List.getElem?_take, if_pos (by omega)]
    simp

variable {P : Program}
theorem run_copy4 (w : World) (dT sT ty elem : TypeId) (b o dLen dCap : Nat) (a : Addr) (sLen sCap n : Nat) (cs : List Value)
    (hu : P.underlying dT = some (.slice elem)) (hs : (P.info? elem).map (·.size) = some 4) (hn : n = Nat.min sLen dLen) (hl4 : cs.length = n * 4)
    (hsrc : ∀ j v, cs[j]? = some v → w.cell? (a.add j) = some v) (hc : ∀ j, j < cs.length → (w.cell? ⟨b, o + j, none⟩).isSome = true) (hf : ∀ j, j < cs.length → w.frozen? ⟨b, o + j, none⟩ = false) (h1 : ∀ v ∈ cs, v.oneCell' = true) :
    (Builtin.copy_ #[dT, sT] ty #[.slice (some ⟨b, o, none⟩) dLen dCap, .slice (some a) sLen sCap]).run P w = .ok (goInt n) (w.setCells b o cs) := by
  have hl := run_loadCells_list (P := P) w a cs hsrc
  have hst := run_storeCells_cells (P := P) b o cs 0 w (by simpa using hc) (by simpa using hf) h1
  cases hq : P.info? elem with
  | none => simp [hq] at hs
  | some i =>
    have hi : i.size = 4 := by simpa [hq] using hs
    rw [hl4] at hl
    simp [Builtin.copy_, run_underlying hu, Builtin.lenOf, Builtin.firstCells, sizeOf, typeInfo, hq, hi, ← hn, hl, hst]
def zero4 : List Value := [.string { data := #[] }, .int .i64 0, .string { data := #[] }, .int .i64 0]
theorem run_clear4 (w : World) (t e ty : TypeId) (z : Value) (ht : P.underlying t = some (.slice e)) (hv : ∀ w, (zeroValue e).run P w = .ok z w) (hz : z.cells.toList = zero4) (b o c : Nat)
    (hc : ∀ j, j < 4 → (w.cell? ⟨b, o + j, none⟩).isSome = true) (hf : ∀ j, j < 4 → w.frozen? ⟨b, o + j, none⟩ = false) :
    (Builtin.clear_ #[t] ty #[.slice (some ⟨b, o, none⟩) 1 c]).run P w = .ok (.tuple #[]) (w.setCells b o zero4) := by
  have hzc : (Builtin.zeroCells z.cells 1).toList = zero4 := by
    have : z.cells = zero4.toArray := by rw [← hz]
    rw [this]
    apply List.ext_getElem
    · simp [Builtin.zeroCells, zero4]
    · intro i h1 h2
      have h3 : i < 4 := by simpa [zero4] using h2
      have : i = 0 ∨ i = 1 ∨ i = 2 ∨ i = 3 := by omega
      rcases this with rfl | rfl | rfl | rfl <;> simp [Builtin.zeroCells, zero4]
  have hst := run_storeCells_cells (P := P) b o zero4 0 w (by simpa [zero4] using hc) (by simpa [zero4] using hf) (by intro v hv'; simp only [zero4, List.mem_cons, List.not_mem_nil, or_false] at hv'; rcases hv' with rfl | rfl | rfl | rfl <;> rfl)
  simp only [Nat.add_zero] at hst
  simp [Builtin.clear_, run_underlying ht, hv, hzc, hst]
theorem cell_one (l : List CellM) : ∀ u ∈ l.flatMap cellCells, u.oneCell' = true := by
  intro u hu
  simp only [List.mem_flatMap, cellCells, List.mem_cons, List.not_mem_nil, or_false] at hu
  obtain ⟨c, -, rfl | rfl | rfl | rfl⟩ := hu <;> rfl

end Go.Proofs.YtobmnnihmbdfjaaGreat
