/- Rows of cells that a call owns. -/
import Derived.Test.YtobmnnihmbdfjaaGreatParse
set_option linter.all false
namespace Go.Proofs.YtobmnnihmbdfjaaGreat
open Go.RowKit

def cellCells (c : CellM) : List Value := [vs c.key, .int .i64 c.size, vs c.loc, .int .i64 c.page]
theorem info144 : (Tryz.prog.info? 144).map (fun i => (i.zero, i.size, i.bytes)) = some (some (.agg #[.string { data := #[] }, .int .i64 0, .string { data := #[] }, .int .i64 0]), 4, 48) := by kernel_rfl
theorem flat_get : ∀ (l : List CellM) (i : Nat) (c : CellM), l[i]? = some c → ∀ r, r < 4 → (l.flatMap cellCells)[i * 4 + r]? = (cellCells c)[r]?
  | [], i, c, h, r, _ => by simp at h
  | d :: l, 0, c, h, r, hr => by
    have : d = c := by simpa using h
    subst this
    rw [List.flatMap_cons, List.getElem?_append_left (by simp [cellCells]; omega)]
    simp
  | d :: l, i + 1, c, h, r, hr => by
    rw [List.flatMap_cons, List.getElem?_append_right (by simp [cellCells]; omega)]
    have := flat_get l i c (by simpa using h) r hr
    rw [← this]
    congr 1
    simp [cellCells]; omega
theorem flat_len4 (l : List CellM) : (l.flatMap cellCells).length = l.length * 4 := by
  induction l with
  | nil => simp
  | cons c l ih => rw [List.flatMap_cons, List.length_append, ih]; simp [cellCells]; omega
/-- Cells in a row of a call's own. -/
abbrev CRow (w : World) (B : Nat) (v : Value) (l : List CellM) : Prop := w.ownsRow B 144 4 v l.length (l.flatMap cellCells)
theorem rowCells {w : World} {B : Nat} {v : Value} {l : List CellM} (h : CRow w B v l) : CellsAt w v l := by
  rcases h.2 with ⟨hv, h0⟩ | ⟨g, cap, cur, hv, hb, hh, h1, h2, h3, h4⟩
  · exact .inl ⟨hv, List.length_eq_zero_iff.1 h0⟩
  · refine .inr ⟨g, 0, cap, hv, lt_of_block hh, fun i c hc => ?_⟩
    have hi : i < l.length := (List.getElem?_eq_some_iff.1 hc).1
    have key : ∀ r, r < 4 → w.cell? ⟨g, 0 + i * 4 + r, none⟩ = (cellCells c)[r]? := by
      intro r hr
      rw [cellAt hh, ← flat_get l i c hc r hr, ← h4, List.getElem?_take, if_pos (by omega), Nat.zero_add]
      simp
    exact ⟨key 0 (by decide), key 1 (by decide), key 2 (by decide), key 3 (by decide)⟩
theorem ownsRow_chg {w w' : World} {B : Nat} {e : TypeId} {k : Nat} {v : Value} {n : Nat} {xs : List Value} {S : List Nat} (h : w.ownsRow B e k v n xs) (hc : Chg S w w') (hS : ∀ i ∈ S, i < B) : w'.ownsRow B e k v n xs := by
  refine ⟨h.1, ?_⟩
  rcases h.2 with h0 | ⟨g, cap, cur, hv, hb, hh, r⟩
  · exact .inl h0
  · exact .inr ⟨g, cap, cur, hv, hb, hc.get hh (fun hm => by have := hS g hm; omega), r⟩
theorem ownsRow_low {w : World} {B B' : Nat} {e : TypeId} {k : Nat} {v : Value} {n : Nat} {xs : List Value} (h : w.ownsRow B e k v n xs) (hB : B' ≤ B) : w.ownsRow B' e k v n xs := by
  refine ⟨h.1, ?_⟩
  rcases h.2 with h0 | ⟨g, cap, cur, hv, hb, r⟩
  · exact .inl h0
  · exact .inr ⟨g, cap, cur, hv, Nat.le_trans hB hb, r⟩
/-- The block of a row, if there is one. -/
def rowB (v : Value) : List Nat := v.ownBlock.toList
theorem grown_chg {w w' : World} {v : Value} (h : w.grownBy w' v.ownBlock) : Chg (rowB v) w w' :=
  ⟨h.os, h.tape, h.output, h.size, fun k hk hn => h.block k hk (fun e => hn (by simp [rowB, ← e]))⟩
theorem rowB_ge {w : World} {B : Nat} {e : TypeId} {k : Nat} {v : Value} {n : Nat} {xs : List Value} (h : w.ownsRow B e k v n xs) : ∀ i ∈ rowB v, B ≤ i := by
  intro i hi
  simp only [rowB, Option.mem_toList] at hi
  exact (h.lt i hi).1
theorem rowB_lt {w : World} {B : Nat} {e : TypeId} {k : Nat} {v : Value} {n : Nat} {xs : List Value} (h : w.ownsRow B e k v n xs) : ∀ i ∈ rowB v, i < w.heap.size := by
  intro i hi
  simp only [rowB, Option.mem_toList] at hi
  exact (h.lt i hi).2
theorem ownsRow_chg2 {w w' : World} {B U : Nat} {e : TypeId} {k : Nat} {v : Value} {n : Nat} {xs : List Value} {S : List Nat} (h : w.ownsRow B e k v n xs) (hu : ∀ g ∈ rowB v, g < U) (hc : Chg S w w') (hS : ∀ i ∈ S, i < B ∨ U ≤ i) : w'.ownsRow B e k v n xs := by
  refine ⟨h.1, ?_⟩
  rcases h.2 with h0 | ⟨g, cap, cur, hv, hb, hh, r⟩
  · exact .inl h0
  · have hg := hu g (by rw [hv]; simp [rowB, Value.ownBlock])
    exact .inr ⟨g, cap, cur, hv, hb, hc.get hh (fun hm => by have := hS g hm; omega), r⟩
theorem grown_get {w w' : World} {B : Nat} {e : TypeId} {s : Nat} {v : Value} {n : Nat} {xs : List Value} (h : w.ownsRow B e s v n xs) (hg : w.grownBy w' v.ownBlock) {k : Nat} {o : Obj} (hk : w.heap[k]? = some o) (hlt : k < B) : w'.heap[k]? = some o :=
  (grown_chg hg).get hk (fun hm => by have := rowB_ge h k hm; omega)
theorem grown_eff {S : List Nat} {w0 w w' : World} {B : Nat} {e : TypeId} {s : Nat} {v : Value} {n : Nat} {xs : List Value} (hc : Chg S w0 w) (h : w.ownsRow B e s v n xs) (hg : w.grownBy w' v.ownBlock) (hB : w0.heap.size ≤ B) : Chg S w0 w' :=
  hc.after (grown_chg hg) (fun k hk => .inr (Nat.le_trans hB (rowB_ge h k hk)))
theorem cells_one (w : World) (c : CellM) (b : Nat) (h : w.heap[b]? = some (.cells #[vs c.key, .int .i64 c.size, vs c.loc, .int .i64 c.page] 144)) : ∀ j u, (cellCells c)[j]? = some u → w.cell? ((⟨b, 0, none⟩ : Addr).add j) = some u := by
  intro j u hu
  have e : ((⟨b, 0, none⟩ : Addr).add j) = ⟨b, j, none⟩ := by simp [Addr.add]; omega
  rw [e, cellAt h, ← hu]
  simp [cellCells]
theorem flat_snoc (l : List CellM) (c : CellM) : (l ++ [c]).flatMap cellCells = l.flatMap cellCells ++ cellCells c := by simp
theorem crow_snoc {w : World} {B : Nat} {v : Value} {l : List CellM} {c : CellM} (h : w.ownsRow B 144 4 v (l.length + 1) (l.flatMap cellCells ++ cellCells c)) : CRow w B v (l ++ [c]) := by
  unfold CRow; rw [flat_snoc, List.length_append]; exact h

def kindOf (p : List UInt8) : Int := (rnum 1 ⟨p, true⟩).1
def TakePost (p : List UInt8) (w : World) (e : Ending) (w' : World) : Prop :=
  ∃ v, e = .returned (.tuple #[nodeV ((takeN p).getD ⟨0, 0, [], []⟩) v, .int .i64 (if (takeN p).isSome then 0 else 7)]) ∧ CRow w' w.heap.size v ((takeN p).getD ⟨0, 0, [], []⟩).cells ∧ Below w.heap.size w w'
theorem TakePost.mk {p : List UInt8} {w w' : World} {e : Ending} (v : Value) (h1 : e = .returned (.tuple #[nodeV ((takeN p).getD ⟨0, 0, [], []⟩) v, .int .i64 (if (takeN p).isSome then 0 else 7)])) (h2 : CRow w' w.heap.size v ((takeN p).getD ⟨0, 0, [], []⟩).cells) (h3 : Below w.heap.size w w') : TakePost p w e w' := ⟨v, h1, h2, h3⟩

end Go.Proofs.YtobmnnihmbdfjaaGreat
