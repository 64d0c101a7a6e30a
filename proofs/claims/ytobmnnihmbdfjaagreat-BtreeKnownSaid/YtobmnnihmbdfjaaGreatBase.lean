/- What changes in memory, said block by block; cells of a block; maps keyed by ints: lookup, store, delete, length. -/
import Derived.Test.YtobmnnihmbdfjaaGreatProg
import Derived.WalkKit
import Derived.WalkSpells
import Derived.WalkLawsBesides
import Derived.BigQuiet
import Derived.Deep.QuietTactic
import Derived.Lib.EndianBits
import Derived.Lib.Hide
import Derived.OneCell
set_option linter.all false
namespace Go.Proofs.YtobmnnihmbdfjaaGreat
open Go.RowKit

/-- Only blocks of S (and new ones) have changed. -/
structure Chg (S : List Nat) (w w' : World) : Prop where
  os : w'.os = w.os
  tape : w'.tape = w.tape
  output : w'.output = w.output
  size : w.heap.size ≤ w'.heap.size
  block : ∀ k, k < w.heap.size → k ∉ S → w'.heap[k]? = w.heap[k]?

theorem Chg.refl (S : List Nat) (w : World) : Chg S w w := ⟨rfl, rfl, rfl, Nat.le_refl _, fun _ _ _ => rfl⟩
theorem Chg.trans {S : List Nat} {a b c : World} (h : Chg S a b) (k : Chg S b c) : Chg S a c :=
  ⟨k.os.trans h.os, k.tape.trans h.tape, k.output.trans h.output, Nat.le_trans h.size k.size, fun i hi hs => (k.block i (Nat.lt_of_lt_of_le hi h.size) hs).trans (h.block i hi hs)⟩
theorem Chg.mono {S T : List Nat} {w w' : World} (h : Chg S w w') (hs : ∀ k, k < w.heap.size → k ∈ S → k ∈ T) : Chg T w w' :=
  ⟨h.os, h.tape, h.output, h.size, fun i hi ht => h.block i hi (fun hm => ht (hs i hi hm))⟩
theorem Chg.of_below {w w' : World} (h : Below w.heap.size w w') (S : List Nat) : Chg S w w' := ⟨h.os, h.tape, h.output, h.size, fun k hk _ => h.block k hk⟩
theorem Chg.to_below {S : List Nat} {w w' : World} {B : Nat} (h : Chg S w w') (hB : B ≤ w.heap.size) (hs : ∀ k ∈ S, B ≤ k) : Below B w w' :=
  ⟨h.os, h.tape, h.output, h.size, fun k hk => h.block k (by omega) (fun hm => by have := hs k hm; omega)⟩
/-- What is new to an earlier world need not be named. -/
theorem Chg.after {S T : List Nat} {a b c : World} (h : Chg S a b) (k : Chg T b c) (ht : ∀ k ∈ T, k ∈ S ∨ a.heap.size ≤ k) : Chg S a c :=
  ⟨k.os.trans h.os, k.tape.trans h.tape, k.output.trans h.output, Nat.le_trans h.size k.size, fun i hi hs => (k.block i (Nat.lt_of_lt_of_le hi h.size) (fun hm => by rcases ht i hm with h | h; exact hs h; omega)).trans (h.block i hi hs)⟩
theorem Chg.drew {S : List Nat} {a w : World} (h : Chg S a w) : Chg S a w.drew := ⟨h.os, h.tape, h.output, h.size, h.block⟩
theorem Chg.drewN {S : List Nat} {a w : World} (h : Chg S a w) (n : Nat) : Chg S a (w.drewN n) := ⟨h.os, h.tape, h.output, h.size, h.block⟩
theorem Chg.alloc {S : List Nat} {a w : World} (h : Chg S a w) (o : Obj) : Chg S a (w.alloc o) :=
  h.after (T := []) ⟨rfl, rfl, rfl, by simp, fun k hk _ => Below.heap_alloc _ _ _ hk⟩ (by simp)
theorem Chg.setCell {S : List Nat} {a w : World} (h : Chg S a w) {p : Addr} (hp : p.block ∈ S ∨ a.heap.size ≤ p.block) (u : Value) : Chg S a (w.setCell p u) :=
  h.after (T := [p.block]) ⟨rfl, rfl, rfl, by simp [World.setCell], fun k hk hn => Below.heap_setCell _ _ _ _ (by simpa using hn)⟩ (by simpa using hp)
theorem Chg.cell {S : List Nat} {w w' : World} (h : Chg S w w') (b o : Nat) (hb : b < w.heap.size) (hs : b ∉ S) : w'.cell? ⟨b, o, none⟩ = w.cell? ⟨b, o, none⟩ := World.cell?_of_block (w := w) (a := ⟨b, o, none⟩) (h.block b hb hs)
theorem Chg.frozen {S : List Nat} {w w' : World} (h : Chg S w w') (b o : Nat) (hb : b < w.heap.size) (hs : b ∉ S) : w'.frozen? ⟨b, o, none⟩ = w.frozen? ⟨b, o, none⟩ := World.frozen?_of_block (w := w) (a := ⟨b, o, none⟩) (h.block b hb hs)
/-- Where no block is new: cells of all other blocks read as before. -/
theorem Chg.cells {m : Nat} {w w' : World} (h : Chg [m] w w') (hs : w'.heap.size = w.heap.size) : (∀ b o, b ≠ m → w'.cell? ⟨b, o, none⟩ = w.cell? ⟨b, o, none⟩) ∧ (∀ b o, b ≠ m → w'.frozen? ⟨b, o, none⟩ = w.frozen? ⟨b, o, none⟩) := by
  have key : ∀ b, b ≠ m → w'.heap[b]? = w.heap[b]? := fun b hb => by
    rcases Nat.lt_or_ge b w.heap.size with c | c
    · exact h.block b c (by simpa using hb)
    · rw [Array.getElem?_eq_none c, Array.getElem?_eq_none (by omega)]
  exact ⟨fun b o hb => World.cell?_of_block (w := w) (a := ⟨b, o, none⟩) (key b hb), fun b o hb => World.frozen?_of_block (w := w) (a := ⟨b, o, none⟩) (key b hb)⟩
theorem Chg.get {S : List Nat} {w w' : World} (h : Chg S w w') {k : Nat} {o : Obj} (hk : w.heap[k]? = some o) (hs : k ∉ S) : w'.heap[k]? = some o := (h.block k (lt_of_block hk) hs).trans hk
theorem Below.get {w w' : World} (h : Below w.heap.size w w') {k : Nat} {o : Obj} (hk : w.heap[k]? = some o) : w'.heap[k]? = some o := (h.block k (lt_of_block hk)).trans hk

theorem belowThen {a b c : World} (h : Below a.heap.size a b) (k : Below b.heap.size b c) : Below a.heap.size a c := h.trans (k.mono h.size)

theorem heapNew {w : World} {n : Nat} (h : w.heap.size = n) (o : Obj) : (w.alloc o).heap[n]? = some o := by rw [← h]; exact heap_alloc_new w o
theorem heapOld {w : World} {k : Nat} {o : Obj} (h : w.heap[k]? = some o) (o' : Obj) : (w.alloc o').heap[k]? = some o := by rw [Below.heap_alloc _ _ _ (lt_of_block h)]; exact h

/-- Cells of a block that is known. -/
theorem cellAt {w : World} {b : Nat} {cs : Array Value} {t : TypeId} {fr : Nat × Nat} (h : w.heap[b]? = some (.cells cs t fr)) (i : Nat) : w.cell? ⟨b, i, none⟩ = cs[i]? := by simp [World.cell?, h]
theorem freeAt {w : World} {b : Nat} {cs : Array Value} {t : TypeId} (h : w.heap[b]? = some (.cells cs t (0, 0))) (i : Nat) : w.frozen? ⟨b, i, none⟩ = false := by simp [World.frozen?, h]
theorem setAt {w : World} {b : Nat} {cs : Array Value} {t : TypeId} {fr : Nat × Nat} (h : w.heap[b]? = some (.cells cs t fr)) (i : Nat) (v : Value) : (w.setCell ⟨b, i, none⟩ v).heap[b]? = some (.cells (cs.setIfInBounds i v) t fr) := by
  have hlt := lt_of_block h
  have h' : w.heap[b] = .cells cs t fr := by simpa [Array.getElem?_eq_getElem hlt] using h
  show (w.heap.modify b _)[b]? = _
  rw [Array.getElem?_eq_getElem (by simpa using hlt), Array.getElem_modify_self, h']
  rfl
theorem setOff {w : World} {b k : Nat} (i : Nat) (v : Value) (h : k ≠ b) : (w.setCell ⟨b, i, none⟩ v).heap[k]? = w.heap[k]? := Below.heap_setCell _ _ _ _ h

/-! What cells held they hold still (for regions that call). -/
theorem kp1 {W w' B : World} {a0 : Addr} {v0 : Value} (h : Below B.heap.size B W ∧ W.cell? a0 = some v0) (hb : Below W.heap.size W w') :
    Below B.heap.size B w' ∧ w'.cell? a0 = some v0 := by
  obtain ⟨q, q0⟩ := h
  exact ⟨belowThen q hb, cell_later hb q0⟩
theorem kp2 {W w' B : World} {a0 a1 : Addr} {v0 v1 : Value} (h : Below B.heap.size B W ∧ W.cell? a0 = some v0 ∧ W.cell? a1 = some v1) (hb : Below W.heap.size W w') :
    Below B.heap.size B w' ∧ w'.cell? a0 = some v0 ∧ w'.cell? a1 = some v1 := by
  obtain ⟨q, q0, q1⟩ := h
  exact ⟨belowThen q hb, cell_later hb q0, cell_later hb q1⟩
theorem kp3 {W w' B : World} {a0 a1 a2 : Addr} {v0 v1 v2 : Value} (h : Below B.heap.size B W ∧ W.cell? a0 = some v0 ∧ W.cell? a1 = some v1 ∧ W.cell? a2 = some v2) (hb : Below W.heap.size W w') :
    Below B.heap.size B w' ∧ w'.cell? a0 = some v0 ∧ w'.cell? a1 = some v1 ∧ w'.cell? a2 = some v2 := by
  obtain ⟨q, q0, q1, q2⟩ := h
  exact ⟨belowThen q hb, cell_later hb q0, cell_later hb q1, cell_later hb q2⟩
theorem kp4 {W w' B : World} {a0 a1 a2 a3 : Addr} {v0 v1 v2 v3 : Value} (h : Below B.heap.size B W ∧ W.cell? a0 = some v0 ∧ W.cell? a1 = some v1 ∧ W.cell? a2 = some v2 ∧ W.cell? a3 = some v3) (hb : Below W.heap.size W w') :
    Below B.heap.size B w' ∧ w'.cell? a0 = some v0 ∧ w'.cell? a1 = some v1 ∧ w'.cell? a2 = some v2 ∧ w'.cell? a3 = some v3 := by
  obtain ⟨q, q0, q1, q2, q3⟩ := h
  exact ⟨belowThen q hb, cell_later hb q0, cell_later hb q1, cell_later hb q2, cell_later hb q3⟩
theorem kp5 {W w' B : World} {a0 a1 a2 a3 a4 : Addr} {v0 v1 v2 v3 v4 : Value} (h : Below B.heap.size B W ∧ W.cell? a0 = some v0 ∧ W.cell? a1 = some v1 ∧ W.cell? a2 = some v2 ∧ W.cell? a3 = some v3 ∧ W.cell? a4 = some v4) (hb : Below W.heap.size W w') :
    Below B.heap.size B w' ∧ w'.cell? a0 = some v0 ∧ w'.cell? a1 = some v1 ∧ w'.cell? a2 = some v2 ∧ w'.cell? a3 = some v3 ∧ w'.cell? a4 = some v4 := by
  obtain ⟨q, q0, q1, q2, q3, q4⟩ := h
  exact ⟨belowThen q hb, cell_later hb q0, cell_later hb q1, cell_later hb q2, cell_later hb q3, cell_later hb q4⟩
theorem kp6 {W w' B : World} {a0 a1 a2 a3 a4 a5 : Addr} {v0 v1 v2 v3 v4 v5 : Value} (h : Below B.heap.size B W ∧ W.cell? a0 = some v0 ∧ W.cell? a1 = some v1 ∧ W.cell? a2 = some v2 ∧ W.cell? a3 = some v3 ∧ W.cell? a4 = some v4 ∧ W.cell? a5 = some v5) (hb : Below W.heap.size W w') :
    Below B.heap.size B w' ∧ w'.cell? a0 = some v0 ∧ w'.cell? a1 = some v1 ∧ w'.cell? a2 = some v2 ∧ w'.cell? a3 = some v3 ∧ w'.cell? a4 = some v4 ∧ w'.cell? a5 = some v5 := by
  obtain ⟨q, q0, q1, q2, q3, q4, q5⟩ := h
  exact ⟨belowThen q hb, cell_later hb q0, cell_later hb q1, cell_later hb q2, cell_later hb q3, cell_later hb q4, cell_later hb q5⟩
theorem kp7 {W w' B : World} {a0 a1 a2 a3 a4 a5 a6 : Addr} {v0 v1 v2 v3 v4 v5 v6 : Value} (h : Below B.heap.size B W ∧ W.cell? a0 = some v0 ∧ W.cell? a1 = some v1 ∧ W.cell? a2 = some v2 ∧ W.cell? a3 = some v3 ∧ W.cell? a4 = some v4 ∧ W.cell? a5 = some v5 ∧ W.cell? a6 = some v6) (hb : Below W.heap.size W w') :
    Below B.heap.size B w' ∧ w'.cell? a0 = some v0 ∧ w'.cell? a1 = some v1 ∧ w'.cell? a2 = some v2 ∧ w'.cell? a3 = some v3 ∧ w'.cell? a4 = some v4 ∧ w'.cell? a5 = some v5 ∧ w'.cell? a6 = some v6 := by
  obtain ⟨q, q0, q1, q2, q3, q4, q5, q6⟩ := h
  exact ⟨belowThen q hb, cell_later hb q0, cell_later hb q1, cell_later hb q2, cell_later hb q3, cell_later hb q4, cell_later hb q5, cell_later hb q6⟩
theorem kp8 {W w' B : World} {a0 a1 a2 a3 a4 a5 a6 a7 : Addr} {v0 v1 v2 v3 v4 v5 v6 v7 : Value} (h : Below B.heap.size B W ∧ W.cell? a0 = some v0 ∧ W.cell? a1 = some v1 ∧ W.cell? a2 = some v2 ∧ W.cell? a3 = some v3 ∧ W.cell? a4 = some v4 ∧ W.cell? a5 = some v5 ∧ W.cell? a6 = some v6 ∧ W.cell? a7 = some v7) (hb : Below W.heap.size W w') :
    Below B.heap.size B w' ∧ w'.cell? a0 = some v0 ∧ w'.cell? a1 = some v1 ∧ w'.cell? a2 = some v2 ∧ w'.cell? a3 = some v3 ∧ w'.cell? a4 = some v4 ∧ w'.cell? a5 = some v5 ∧ w'.cell? a6 = some v6 ∧ w'.cell? a7 = some v7 := by
  obtain ⟨q, q0, q1, q2, q3, q4, q5, q6, q7⟩ := h
  exact ⟨belowThen q hb, cell_later hb q0, cell_later hb q1, cell_later hb q2, cell_later hb q3, cell_later hb q4, cell_later hb q5, cell_later hb q6, cell_later hb q7⟩
theorem kp9 {W w' B : World} {a0 a1 a2 a3 a4 a5 a6 a7 a8 : Addr} {v0 v1 v2 v3 v4 v5 v6 v7 v8 : Value} (h : Below B.heap.size B W ∧ W.cell? a0 = some v0 ∧ W.cell? a1 = some v1 ∧ W.cell? a2 = some v2 ∧ W.cell? a3 = some v3 ∧ W.cell? a4 = some v4 ∧ W.cell? a5 = some v5 ∧ W.cell? a6 = some v6 ∧ W.cell? a7 = some v7 ∧ W.cell? a8 = some v8) (hb : Below W.heap.size W w') :
    Below B.heap.size B w' ∧ w'.cell? a0 = some v0 ∧ w'.cell? a1 = some v1 ∧ w'.cell? a2 = some v2 ∧ w'.cell? a3 = some v3 ∧ w'.cell? a4 = some v4 ∧ w'.cell? a5 = some v5 ∧ w'.cell? a6 = some v6 ∧ w'.cell? a7 = some v7 ∧ w'.cell? a8 = some v8 := by
  obtain ⟨q, q0, q1, q2, q3, q4, q5, q6, q7, q8⟩ := h
  exact ⟨belowThen q hb, cell_later hb q0, cell_later hb q1, cell_later hb q2, cell_later hb q3, cell_later hb q4, cell_later hb q5, cell_later hb q6, cell_later hb q7, cell_later hb q8⟩
theorem kp10 {W w' B : World} {a0 a1 a2 a3 a4 a5 a6 a7 a8 a9 : Addr} {v0 v1 v2 v3 v4 v5 v6 v7 v8 v9 : Value} (h : Below B.heap.size B W ∧ W.cell? a0 = some v0 ∧ W.cell? a1 = some v1 ∧ W.cell? a2 = some v2 ∧ W.cell? a3 = some v3 ∧ W.cell? a4 = some v4 ∧ W.cell? a5 = some v5 ∧ W.cell? a6 = some v6 ∧ W.cell? a7 = some v7 ∧ W.cell? a8 = some v8 ∧ W.cell? a9 = some v9) (hb : Below W.heap.size W w') :
    Below B.heap.size B w' ∧ w'.cell? a0 = some v0 ∧ w'.cell? a1 = some v1 ∧ w'.cell? a2 = some v2 ∧ w'.cell? a3 = some v3 ∧ w'.cell? a4 = some v4 ∧ w'.cell? a5 = some v5 ∧ w'.cell? a6 = some v6 ∧ w'.cell? a7 = some v7 ∧ w'.cell? a8 = some v8 ∧ w'.cell? a9 = some v9 := by
  obtain ⟨q, q0, q1, q2, q3, q4, q5, q6, q7, q8, q9⟩ := h
  exact ⟨belowThen q hb, cell_later hb q0, cell_later hb q1, cell_later hb q2, cell_later hb q3, cell_later hb q4, cell_later hb q5, cell_later hb q6, cell_later hb q7, cell_later hb q8, cell_later hb q9⟩

/-- A region that draws its order, whose operations yield one value in every world of a class. -/
theorem wp_region_class {P : Program} {id : Nat} {Q : Exit → Act → World → Prop} {a : Act} {w : World} {l : List Oper} (C : World → Prop) (hC : C w.drew) (hm : P.follows .mixedOrders = true) (hB : Region.lexB .any l.toArray = true)
    (h : wpQuiet P l.toArray C (fun a' => ∀ w', C w' → Q .normal a' w') l a) : (Code.region id l.toArray true).wp P Q a w :=
  wp_region_quiet (C := C) hm hB hC (by simpa using h)

/-! ### Maps keyed by ints -/
/-- The entries of a map whose keys are ints of a kind, as a function. -/
structure IsIMap (q : IntKind) (es : Array MapEntry) (clock : Nat) (f : Int → Option Value) : Prop where
  stamps : es.toList.Pairwise fun a b => a.born ≠ b.born
  old : ∀ e ∈ es.toList, e.born < clock
  keys : ∀ e ∈ es.toList, ∃ n, e.key = .int q n
  nodup : es.toList.Pairwise fun a b => a.key ≠ b.key
  get : ∀ n v, f n = some v ↔ ∃ e ∈ es.toList, e.key = .int q n ∧ e.val = v

/-- A map in memory. -/
def IMapAt (q : IntKind) (w : World) (m : Nat) (f : Int → Option Value) : Prop := ∃ es clock, w.heap[m]? = some (.map es clock) ∧ IsIMap q es clock f

theorem IMapAt.kept {q : IntKind} {w w' : World} {m : Nat} {f : Int → Option Value} (h : IMapAt q w m f) (hk : w'.heap[m]? = w.heap[m]?) : IMapAt q w' m f := by
  obtain ⟨es, clock, hb, hm⟩ := h
  exact ⟨es, clock, hk.trans hb, hm⟩

theorem IsIMap.empty (q : IntKind) : IsIMap q #[] 0 (fun _ => none) := ⟨by simp, by simp, by simp, by simp, by simp⟩
theorem IMapAt.fresh (q : IntKind) (w : World) : IMapAt q (w.alloc (.map #[] 0)) w.heap.size (fun _ => none) := ⟨#[], 0, heap_alloc_new w _, IsIMap.empty q⟩

theorem findNow_int (q : IntKind) (n : Int) : ∀ (l : List MapEntry) (k : Nat), (∀ e ∈ l, ∃ m, e.key = .int q m) →
    Instr.findNow (.int q) (.int q n) l k = some ((l.findIdx? (fun e => match e.key with | .int _ m => n == m | _ => false)).bind fun i => (l[i]?).map fun e => (k + i, e.val)) := by
  intro l
  induction l with
  | nil => intro k _; simp [Instr.findNow]
  | cons e l ih =>
    intro k h
    obtain ⟨m, hm⟩ := h e (by simp)
    simp only [Instr.findNow, hm, Instr.sameNow, if_true, List.findIdx?_cons]
    by_cases c : (n == m) = true
    · simp [c]
    · simp only [Bool.not_eq_true] at c
      simp only [c, Bool.false_eq_true, if_false]
      rw [ih (k + 1) (fun e he => h e (by simp [he]))]
      cases l.findIdx? _ with
      | none => simp
      | some i => simp [Nat.add_assoc, Nat.add_comm 1 i]

/-- What a search for a key comes to. -/
theorem findKey_int {P : Program} {kt : TypeId} {q : IntKind} (hk : P.underlying kt = some (.int q)) {es : Array MapEntry} {clock : Nat} {f : Int → Option Value} (h : IsIMap q es clock f) (n : Int) (w : World) :
    ∃ r : Option (Nat × Value), (Instr.findKey kt (.int q n) es.toList).run P w = .ok r w ∧ r.map (·.2) = f n ∧ (∀ i v, r = some (i, v) → ∃ e, es[i]? = some e ∧ e.key = .int q n ∧ e.val = v) := by
  refine ⟨(es.toList.findIdx? (fun e => match e.key with | .int _ m => n == m | _ => false)).bind fun i => (es.toList[i]?).map fun e => (0 + i, e.val), ?_, ?_, ?_⟩
  · simp [Instr.findKey, run_underlying hk, findNow_int q n es.toList 0 h.keys]
  · cases hf : es.toList.findIdx? (fun e => match e.key with | .int _ m => n == m | _ => false) with
    | none =>
      simp only [Option.bind_none, Option.map_none]
      symm
      cases hv : f n with
      | none => rfl
      | some v =>
        obtain ⟨e, he, hk', -⟩ := (h.get n v).1 hv
        have := List.findIdx?_eq_none_iff.1 hf e he
        simp [hk'] at this
    | some i =>
      obtain ⟨hi, h1, -⟩ := List.findIdx?_eq_some_iff_getElem.1 hf
      simp only [Option.bind_some, List.getElem?_eq_getElem hi, Option.map_some]
      obtain ⟨m, hm⟩ := h.keys _ (List.getElem_mem hi)
      rw [hm] at h1
      simp at h1
      subst h1
      exact ((h.get n _).2 ⟨_, List.getElem_mem hi, hm, rfl⟩).symm
  · intro i v hr
    cases hf : es.toList.findIdx? (fun e => match e.key with | .int _ m => n == m | _ => false) with
    | none => simp [hf] at hr
    | some j =>
      obtain ⟨hi, h1, -⟩ := List.findIdx?_eq_some_iff_getElem.1 hf
      rw [hf] at hr
      simp only [Option.bind_some, List.getElem?_eq_getElem hi, Option.map_some, Option.some.injEq, Prod.mk.injEq] at hr
      obtain ⟨rfl, rfl⟩ := hr
      obtain ⟨m, hm⟩ := h.keys _ (List.getElem_mem hi)
      rw [hm] at h1
      simp at h1
      subst h1
      refine ⟨es.toList[j], ?_, hm, rfl⟩
      simp only [Nat.zero_add]
      have : j < es.size := by simpa using hi
      rw [Array.getElem?_eq_getElem this]; simp

theorem checkKey_succ {P : Program} {kt : TypeId} {q : IntKind} (hk : P.underlying kt = some (.int q)) (b : Bool) (n : Int) (w : World) (N : Nat) :
    (Instr.checkKey b (N + 1) kt (.int q n)).run P w = .ok () w := by
  simp [Instr.checkKey, run_underlying hk]
theorem checkKey_int {P : Program} {kt : TypeId} {q : IntKind} (hk : P.underlying kt = some (.int q)) (b : Bool) (n : Int) (w : World) :
    (Instr.checkKey b 10000 kt (.int q n)).run P w = .ok () w := checkKey_succ hk b n w 9999

theorem run_getObj_map {P : Program} {w : World} {m : Nat} {es : Array MapEntry} {clock : Nat} (h : w.heap[m]? = some (.map es clock)) :
    (getObj m).run P w = .ok (.map es clock) w := by
  simp [getObj, Sem.run, h]

/-- The run of a look-up. -/
theorem run_lookup_int {P : Program} {t kt et : TypeId} {q : IntKind} (ht : P.underlying t = some (.map kt et)) (hk : P.underlying kt = some (.int q)) {w : World} {m : Nat} {f : Int → Option Value} (h : IMapAt q w m f) (n : Int)
    {z : Value} (hz : (zeroValue et).run P w = .ok z w) (ok : Bool) :
    (Instr.lookup t (.map (some m)) (.int q n) ok).run P w = .ok (if ok then .tuple #[(f n).getD z, .bool (f n).isSome] else (f n).getD z) w := by
  obtain ⟨es, clock, hb, hm⟩ := h
  obtain ⟨r, hr, hf, -⟩ := findKey_int hk hm n w
  have hg := run_getObj_map (P := P) hb
  have hc := fun b => checkKey_int hk b n w
  rw [← hf]
  simp only [Instr.lookup, Sem.run_bind, run_underlying ht, Result.andThen, hg, Sem.run_pure, hc, hr]
  cases r with
  | none => simp [hz, Result.andThen]
  | some p => simp [Result.andThen]

theorem IsIMap.store {q : IntKind} {es : Array MapEntry} {clock : Nat} {f : Int → Option Value} (h : IsIMap q es clock f) (n : Int) (v : Value) (hn : f n = none) :
    IsIMap q (es.push { key := .int q n, val := v, born := clock }) (clock + 1) (fun k => if k = n then some v else f k) := by
  constructor
  · simp only [Array.toList_push, List.pairwise_append, List.pairwise_cons, List.not_mem_nil, false_implies, implies_true, List.Pairwise.nil, and_true, true_and, List.mem_singleton]
    refine ⟨h.stamps, fun a ha b hb => ?_⟩
    subst hb
    have := h.old a ha
    show a.born ≠ clock
    omega
  · intro e he
    simp only [Array.toList_push, List.mem_append, List.mem_singleton] at he
    rcases he with he | rfl
    · exact Nat.lt_succ_of_lt (h.old e he)
    · exact Nat.lt_succ_self _
  · intro e he
    simp only [Array.toList_push, List.mem_append, List.mem_singleton] at he
    rcases he with he | rfl
    · exact h.keys e he
    · exact ⟨n, rfl⟩
  · simp only [Array.toList_push, List.pairwise_append, List.pairwise_cons, List.not_mem_nil, false_implies, implies_true, List.Pairwise.nil, and_true, true_and, List.mem_singleton]
    refine ⟨h.nodup, fun a ha b hb => ?_⟩
    subst hb
    intro e
    have := (h.get n a.val).2 ⟨a, ha, e, rfl⟩
    rw [hn] at this
    cases this
  · intro k u
    simp only [Array.toList_push, List.mem_append, List.mem_singleton]
    by_cases hk : k = n
    · subst hk
      simp only [if_true, Option.some.injEq]
      constructor
      · rintro rfl; exact ⟨_, .inr rfl, rfl, rfl⟩
      · rintro ⟨e, he | rfl, h1, h2⟩
        · have := (h.get k u).2 ⟨e, he, h1, h2⟩
          rw [hn] at this; cases this
        · exact h2
    · simp only [if_neg hk]
      rw [h.get k u]
      constructor
      · rintro ⟨e, he, h1, h2⟩; exact ⟨e, .inl he, h1, h2⟩
      · rintro ⟨e, he | rfl, h1, h2⟩
        · exact ⟨e, he, h1, h2⟩
        · simp at h1; exact absurd h1.symm hk

theorem IsIMap.same_key {q : IntKind} {es : Array MapEntry} {clock : Nat} {f : Int → Option Value} (h : IsIMap q es clock f) {i j : Nat} {a b : MapEntry} (hi : es[i]? = some a) (hj : es[j]? = some b) (hk : a.key = b.key) : i = j := by
  have hp := List.pairwise_iff_getElem.1 h.nodup
  obtain ⟨hi', rfl⟩ := Array.getElem?_eq_some_iff.1 hi
  obtain ⟨hj', rfl⟩ := Array.getElem?_eq_some_iff.1 hj
  rcases Nat.lt_trichotomy i j with c | c | c
  · exact absurd hk (hp i j (by simpa using hi') (by simpa using hj') c)
  · exact c
  · exact absurd hk.symm (hp j i (by simpa using hj') (by simpa using hi') c)

theorem IsIMap.restore {q : IntKind} {es : Array MapEntry} {clock : Nat} {f : Int → Option Value} (h : IsIMap q es clock f) (n : Int) (v : Value) {i : Nat} {e0 : MapEntry} (hi : es[i]? = some e0) (h0 : e0.key = .int q n) :
    IsIMap q (es.modify i fun e => { e with key := .int q n, val := v }) clock (fun k => if k = n then some v else f k) := by
  have hlt := (Array.getElem?_eq_some_iff.1 hi).1
  have hmem : ∀ e, e ∈ (es.modify i fun e => { e with key := .int q n, val := v }).toList ↔ ∃ j, ∃ (hj : j < es.size), e = if i = j then { es[j] with key := .int q n, val := v } else es[j] := by
    intro e
    rw [List.mem_iff_getElem]
    constructor
    · rintro ⟨j, hj, rfl⟩
      have hj' : j < es.size := by simpa using hj
      refine ⟨j, hj', ?_⟩
      rw [Array.getElem_toList, Array.getElem_modify]
    · rintro ⟨j, hj, rfl⟩
      refine ⟨j, by simpa using hj, ?_⟩
      rw [Array.getElem_toList, Array.getElem_modify]
  have hkey : ∀ j (hj : j < es.size), (if i = j then ({ es[j] with key := .int q n, val := v } : MapEntry) else es[j]).key = es[j].key := by
    intro j hj
    split
    · rename_i c; subst c
      have : es[i] = e0 := by simpa [Array.getElem?_eq_getElem hlt] using hi
      rw [this, h0]
    · rfl
  have hborn : ∀ j (hj : j < es.size), (if i = j then ({ es[j] with key := .int q n, val := v } : MapEntry) else es[j]).born = es[j].born := by
    intro j hj
    split <;> rfl
  constructor
  · rw [List.pairwise_iff_getElem]
    intro a b ha hb hab
    have ha' : a < es.size := by simpa using ha
    have hb' : b < es.size := by simpa using hb
    have := List.pairwise_iff_getElem.1 h.stamps a b (by simpa using ha') (by simpa using hb') hab
    simp only [Array.getElem_toList, Array.getElem_modify]
    have h1 := hborn a ha'; have h2 := hborn b hb'
    rw [h1, h2]
    simpa using this
  · intro e he
    obtain ⟨j, hj, rfl⟩ := (hmem e).1 he
    rw [hborn j hj]
    exact h.old _ (by simp)
  · intro e he
    obtain ⟨j, hj, rfl⟩ := (hmem e).1 he
    rw [hkey j hj]
    exact h.keys _ (by simp)
  · rw [List.pairwise_iff_getElem]
    intro a b ha hb hab
    have ha' : a < es.size := by simpa using ha
    have hb' : b < es.size := by simpa using hb
    have := List.pairwise_iff_getElem.1 h.nodup a b (by simpa using ha') (by simpa using hb') hab
    simp only [Array.getElem_toList, Array.getElem_modify]
    have h1 := hkey a ha'; have h2 := hkey b hb'
    rw [h1, h2]
    simpa using this
  · intro k u
    have h0' : es[i] = e0 := by simpa [Array.getElem?_eq_getElem hlt] using hi
    by_cases hk : k = n
    · subst hk
      simp only [if_true, Option.some.injEq]
      constructor
      · rintro rfl
        exact ⟨_, (hmem _).2 ⟨i, hlt, rfl⟩, by simp, by simp⟩
      · rintro ⟨e, he, h1, h2⟩
        obtain ⟨j, hj, rfl⟩ := (hmem e).1 he
        rw [hkey j hj] at h1
        have : i = j := h.same_key hi (Array.getElem?_eq_getElem hj) (h0.trans h1.symm)
        subst this
        simpa using h2
    · simp only [if_neg hk]
      rw [h.get k u]
      constructor
      · rintro ⟨e, he, h1, h2⟩
        obtain ⟨j, hj, rfl⟩ := List.mem_iff_getElem.1 he
        have hj' : j < es.size := by simpa using hj
        refine ⟨_, (hmem _).2 ⟨j, hj', rfl⟩, ?_, ?_⟩
        · rw [hkey j hj']; simpa using h1
        · have : i ≠ j := by
            rintro rfl
            simp only [Array.getElem_toList] at h1
            rw [h0', h0] at h1
            simp at h1; exact hk h1.symm
          simpa [this] using h2
      · rintro ⟨e, he, h1, h2⟩
        obtain ⟨j, hj, rfl⟩ := (hmem e).1 he
        have h1' := h1
        rw [hkey j hj] at h1'
        have : i ≠ j := by
          rintro rfl
          rw [h0', h0] at h1'
          simp at h1'; exact hk h1'.symm
        exact ⟨es[j], by simp, h1', by simpa [this] using h2⟩

/-- What a store does. -/
theorem run_update_int {P : Program} {t kt et : TypeId} {q : IntKind} (ht : P.underlying t = some (.map kt et)) (hk : P.underlying kt = some (.int q)) {w : World} {m : Nat} {f : Int → Option Value} (h : IMapAt q w m f) (n : Int) (v : Value) :
    ∃ w', (Instr.mapUpdate t (.map (some m)) (.int q n) v).run P w = .ok () w' ∧ Chg [m] w w' ∧ w'.heap.size = w.heap.size ∧ w'.drawn = w.drawn ∧ IMapAt q w' m (fun k => if k = n then some v else f k) := by
  obtain ⟨es, clock, hb, hm⟩ := h
  obtain ⟨r, hr, hf, hi⟩ := findKey_int hk hm n w
  have hlt := lt_of_block hb
  have hchg : ∀ o : Obj, Chg [m] w { w with heap := w.heap.setIfInBounds m o } := fun o => ⟨rfl, rfl, rfl, by simp, fun k hk hn => by
    simp only [List.mem_singleton] at hn
    simp [Array.getElem?_setIfInBounds, Ne.symm hn]⟩
  have hget : ∀ o : Obj, ({ w with heap := w.heap.setIfInBounds m o } : World).heap[m]? = some o := fun o => by
    simp [Array.getElem?_setIfInBounds, hlt]
  have hg := run_getObj_map (P := P) hb
  have hc := fun b => checkKey_int hk b n w
  simp only [Instr.mapUpdate, Sem.run_bind, run_underlying ht, Result.andThen, hg, Sem.run_pure, hc, hr]
  cases r with
  | none =>
    simp only [Option.map_none] at hf
    refine ⟨{ w with heap := w.heap.setIfInBounds m (.map (es.push { key := .int q n, val := v, born := clock }) (clock + 1)) }, by simp [setObj, Sem.run, hb], hchg _, by simp, rfl, _, _, hget _, hm.store n v hf.symm⟩
  | some p =>
    obtain ⟨i, u⟩ := p
    obtain ⟨e0, he0, h0, -⟩ := hi i u rfl
    refine ⟨{ w with heap := w.heap.setIfInBounds m (.map (es.modify i fun e => { e with key := .int q n, val := v }) clock) }, ?_, hchg _, by simp, rfl, _, _, hget _, hm.restore n v he0 h0⟩
    simp [Instr.keyThatStays, he0, h0, Instr.sameBits, setObj, Sem.run, hb, Result.andThen]


/-- A look-up at the operation. -/
theorem wpList_lookup_imap {P : Program} (w : World) {ops : Array Oper} {rest : List Oper} {o : Oper} {a : Act} {Q : Exit → Act → World → Prop}
    (hg : o.guard = none) (m x : Operand) (t : TypeId) (ok : Bool) (hop : o.op = Op.lookup t m x ok)
    (kt et : TypeId) (q : IntKind) (ht : P.underlying t = some (.map kt et)) (hk : P.underlying kt = some (.int q)) (z : Value) (hz : (zeroValue et).run P w = .ok z w) (b : Nat) (f : Int → Option Value)
    (hm : a.eval m = .map (some b)) (hown : IMapAt q w b f) (n : Int) (hx : a.eval x = .int q n)
    (hK : wpList P ops Q rest (a.put o.dst (if ok then .tuple #[(f n).getD z, .bool (f n).isSome] else (f n).getD z)) w) :
    wpList P ops Q (o :: rest) a w := by
  refine wpList_plain hg fun K' hK' => ?_
  have hrun := run_lookup_int ht hk hown n hz ok
  unfold Oper.wp
  simp only [execOp, hop, hm, hx, hrun, Result.andThen]
  simp only [Sem.run_bind, hrun, Result.andThen, Sem.run_pure]
  exact hK' _ _ hK

/-- A store into a map at the operation. -/
theorem wpList_update_imap {P : Program} (w : World) {ops : Array Oper} {rest : List Oper} {o : Oper} {a : Act} {Q : Exit → Act → World → Prop}
    (hg : o.guard = none) (m x v : Operand) (t : TypeId) (hop : o.op = Op.mapUpdate t m x v)
    (kt et : TypeId) (q : IntKind) (ht : P.underlying t = some (.map kt et)) (hk : P.underlying kt = some (.int q)) (b : Nat) (f : Int → Option Value)
    (hm : a.eval m = .map (some b)) (hown : IMapAt q w b f) (n : Int) (hx : a.eval x = .int q n) (u : Value) (hv : a.eval v = u)
    (hK : ∀ w', Hid (Chg [b] w w') → Hid (w'.heap.size = w.heap.size) → (∀ b' i, b' ≠ b → w'.cell? ⟨b', i, none⟩ = w.cell? ⟨b', i, none⟩) → (∀ b' i, b' ≠ b → w'.frozen? ⟨b', i, none⟩ = w.frozen? ⟨b', i, none⟩) → Hid (IMapAt q w' b (fun k => if k = n then some u else f k)) → wpList P ops Q rest (a.put o.dst undef) w') :
    wpList P ops Q (o :: rest) a w := by
  refine wpList_plain hg fun K' hK' => ?_
  obtain ⟨w', hrun, hc, hs, -, hmap⟩ := run_update_int (P := P) ht hk hown n u
  unfold Oper.wp
  simp only [execOp, hop, hm, hx, hv, Sem.run_bind, hrun, Result.andThen, Sem.run_pure]
  exact hK' _ _ (hK w' hc hs (hc.cells hs).1 (hc.cells hs).2 hmap)

/-- The world behind a store into a map, by a name. -/
noncomputable def updMap (P : Program) (t : TypeId) (m : Nat) (k v : Value) (w : World) : World :=
  open Classical in if h : ∃ w', (Instr.mapUpdate t (.map (some m)) k v).run P w = .ok () w' then Classical.choose h else w

theorem updMap_run {P : Program} {t kt et : TypeId} {q : IntKind} (ht : P.underlying t = some (.map kt et)) (hk : P.underlying kt = some (.int q)) {w : World} {m : Nat} {f : Int → Option Value} (h : IMapAt q w m f) (n : Int) (v : Value) :
    (Instr.mapUpdate t (.map (some m)) (.int q n) v).run P w = .ok () (updMap P t m (.int q n) v w) ∧ Chg [m] w (updMap P t m (.int q n) v w) ∧ (updMap P t m (.int q n) v w).heap.size = w.heap.size ∧ IMapAt q (updMap P t m (.int q n) v w) m (fun k => if k = n then some v else f k) := by
  obtain ⟨w', hrun, hc, hs, -, hm⟩ := run_update_int (P := P) ht hk h n v
  have hex : ∃ w', (Instr.mapUpdate t (.map (some m)) (.int q n) v).run P w = .ok () w' := ⟨w', hrun⟩
  have e : updMap P t m (.int q n) v w = w' := by
    unfold updMap
    rw [dif_pos hex]
    have h2 := hrun.symm.trans (Classical.choose_spec hex)
    simp only [Result.ok.injEq, true_and] at h2
    exact h2.symm
  rw [e]; exact ⟨hrun, hc, hs, hm⟩

/-- Some map lies there. -/
def HasMap (q : IntKind) (w : World) (m : Nat) : Prop := ∃ f, IMapAt q w m f
theorem updMap_eq {P : Program} {t kt et : TypeId} {q : IntKind} (ht : P.underlying t = some (.map kt et)) (hk : P.underlying kt = some (.int q)) (m : Nat) (n : Int) (v : Value) (w : World) (h : HasMap q w m) :
    (Instr.mapUpdate t (.map (some m)) (.int q n) v).run P w = .ok () (updMap P t m (.int q n) v w) := by
  obtain ⟨f, hf⟩ := h
  exact (updMap_run ht hk hf n v).1

end Go.Proofs.YtobmnnihmbdfjaaGreat
