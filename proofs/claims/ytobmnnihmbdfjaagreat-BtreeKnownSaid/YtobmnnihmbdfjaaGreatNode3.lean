/- Pages of trees: node.may as a whole; builders by their bytes. -/
import Derived.Test.YtobmnnihmbdfjaaGreatNode2
set_option linter.all false
namespace Go.Proofs.YtobmnnihmbdfjaaGreat
open Go.RowKit

/-- Sizes that are far from any limit. -/
structure Small (x : NodeM) : Prop where
  cells : x.cells.length ≤ 100000
  data : x.data.length ≤ 1000000
  each : ∀ c ∈ x.cells, c.key.length ≤ 1000000 ∧ c.loc.length ≤ 1000000

theorem CellsAt.slice {w : World} {v : Value} {l : List CellM} (h : CellsAt w v l) : ∃ a cap, v = .slice a l.length cap := by
  rcases h with ⟨rfl, rfl⟩ | ⟨b, off, cap, rfl, -⟩
  · exact ⟨none, 0, rfl⟩
  · exact ⟨_, cap, rfl⟩

theorem nmay_any (x : NodeM) (v : Value) (w : World) (hs : CellsAt w v x.cells) (hz : Small x) :
    Calls Tryz.prog 183 #[nodeV x v] w fun e w' => e = .returned (.bool (mayN x)) ∧ Below w.heap.size w w' := by
  obtain ⟨kind, first, l, data⟩ := x
  obtain ⟨a, cap, rfl⟩ := hs.slice
  have hn : (((l.length : Nat) : Int) == 0) = (l == []) := by cases l <;> simp <;> omega
  by_cases k1 : kind = 1
  · subst k1
    by_cases f : first = 0
    · subst f
      by_cases d : data = []
      · subst d
        have e : mayN ⟨1, 0, l, []⟩ = cellsB 1 l := by simp [mayN]
        rw [e]
        rcases hs with ⟨hv, rfl⟩ | ⟨b, off, cap', hv, h2⟩
        · simp only [Value.slice.injEq] at hv
          obtain ⟨rfl, -, rfl⟩ := hv
          exact may_leaf_nil w
        · simp only [Value.slice.injEq, true_and] at hv
          obtain ⟨rfl, rfl⟩ := hv
          exact may_leaf_some l b off cap w (.inr ⟨b, off, cap, rfl, h2⟩) hz.cells hz.each
      · have e : mayN ⟨1, 0, l, data⟩ = false := by simp [mayN, d]
        rw [e]
        exact may_leaf_data data (by cases data <;> simp_all) (by simpa using d) a l.length cap w
    · have e : mayN ⟨1, first, l, data⟩ = false := by simp [mayN, f]
      rw [e]
      exact may_leaf_first first (by simpa using f) (by simpa using f) data a l.length cap w
  by_cases k2 : kind = 2
  · subst k2
    cases f : pageN first 1 with
    | false =>
      have e : mayN ⟨2, first, l, data⟩ = false := by simp [mayN, f]
      rw [e]
      exact may_inner_first first f data a l.length cap w
    | true =>
      by_cases d : data = []
      · subst d
        by_cases hl : l = []
        · subst hl
          have e : mayN ⟨2, first, [], []⟩ = false := by simp [mayN]
          rw [e]
          exact may_inner_none first f a cap w
        · have e : mayN ⟨2, first, l, []⟩ = cellsB 2 l := by simp [mayN, f, hl]
          rw [e]
          rcases hs with ⟨hv, h0⟩ | ⟨b, off, cap', hv, h2⟩
          · exact absurd h0 hl
          · simp only [Value.slice.injEq, true_and] at hv
            obtain ⟨rfl, rfl⟩ := hv
            exact may_inner_some first f l b off cap (List.length_pos_iff.2 hl) w (.inr ⟨b, off, cap, rfl, h2⟩) hz.cells hz.each
      · have e : mayN ⟨2, first, l, data⟩ = false := by simp [mayN, d]
        rw [e]
        exact may_inner_data first f data (by cases data <;> simp_all) (by simpa using d) a l.length cap w
  by_cases k3 : kind = 3
  · subst k3
    have e : mayN ⟨3, first, l, data⟩ = (pageN first 0 && decide ((1 : Int) ≤ data.length) && decide ((data.length : Int) ≤ 505) && ((l.length : Int) == 0)) := by
      rw [hn]
      have e1 : decide ((1 : Int) ≤ data.length) = decide (1 ≤ data.length) := by simp; omega
      have e2 : decide ((data.length : Int) ≤ 505) = decide (data.length ≤ 505) := by simp; omega
      simp only [mayN, e1, e2]; simp
    rw [e]
    exact may_more first data hz.data a l.length cap w
  by_cases k4 : kind = 4
  · subst k4
    have e : mayN ⟨4, first, l, data⟩ = (pageN first 0 && (data == []) && ((l.length : Int) == 0)) := by
      rw [hn]; simp [mayN]
    rw [e]
    exact may_free first data a l.length cap w
  · have e : mayN ⟨kind, first, l, data⟩ = false := by simp [mayN, k1, k2, k3, k4]
    rw [e]
    exact may_other kind first (by simpa using k1) (by simpa using k2) (by simpa using k3) (by simpa using k4) data a l.length cap w

/-! ### Builders by their bytes -/
def BAt (b : Nat) (l : List UInt8) (w : World) : Prop := Lib.IsBuilder 222 5 b b (Lib.byteCells l) w

theorem BAt.fresh (w : World) : BAt w.heap.size [] (w.alloc (.cells #[.pointer none, .slice none 0 0] 222)) := Lib.fresh_isBuilder 222 5 w

theorem builderAt_below {b : Nat} {p : Value} {bs : List Value} {w w' : World} (h : Lib.BuilderAt 222 5 b b p bs w) (hb : Below w.heap.size w w') : Lib.BuilderAt 222 5 b b p bs w' := by
  obtain ⟨h1, v, h2, h3, h4⟩ := h
  refine ⟨h1, v, Below.get hb h2, ?_, h4⟩
  refine ⟨h3.1, ?_⟩
  rcases h3.2 with h | ⟨g, cap, cur, hv, hg, hh, r⟩
  · exact .inl h
  · exact .inr ⟨g, cap, cur, hv, hg, Below.get hb hh, r⟩

theorem BAt.below {b : Nat} {l : List UInt8} {w w' : World} (h : BAt b l w) (hb : Below w.heap.size w w') : BAt b l w' :=
  h.imp (fun x => builderAt_below x hb) (fun x => builderAt_below x hb)
theorem BAt.lt {b : Nat} {l : List UInt8} {w : World} (h : BAt b l w) : b < w.heap.size := by
  rcases h with h | h <;> exact h.lt

theorem byteCell (c : Int) (h0 : 0 ≤ c) (h1 : c < 256) : [Value.int .u8 c] = Lib.byteCells [byteOf c] := by
  have e : ((byteOf c).toNat : Int) = c := by
    have : c % 256 = c := by omega
    simp only [byteOf, this]
    rw [UInt8.toNat_ofNat']
    omega
  simp [Lib.byteCells, e]

theorem wbyte (b : Nat) (l : List UInt8) (c : Int) (w : World) (h : BAt b l w) (h0 : 0 ≤ c) (h1 : c < 256) (hl : l.length ≤ 10000000000000) :
    Calls Tryz.prog 240 #[ptr b, .int .u8 c] w fun e w' => e = .returned .nilIface ∧ BAt b (l ++ [byteOf c]) w' ∧ Below b w w' ∧ Lib.OthersKept 5 (some b) w w' := by
  refine (writeByte_any b b (Lib.byteCells l) c w h (by simp [Lib.byteCells]; omega) (Nat.le_of_lt h.lt)).mono ?_
  rintro e w' ⟨rfl, hb, hbl, hk⟩
  refine ⟨rfl, .inr ?_, hbl, hk⟩
  rw [byteCell c h0 h1] at hb
  simpa [Lib.byteCells] using hb

theorem wstring (b : Nat) (l : List UInt8) (s : ByteArray) (w : World) (h : BAt b l w) (hs : s.size ≤ 100000000) (hl : l.length ≤ 10000000000000) :
    Calls Tryz.prog 113 #[ptr b, .string s] w fun e w' => e = .returned (.tuple #[.int .i64 s.size, .nilIface]) ∧ BAt b (l ++ s.data.toList) w' ∧ Below b w w' ∧ Lib.OthersKept 5 (some b) w w' := by
  refine (writeString_any b b (Lib.byteCells l) s w h (by simp [Lib.byteCells]; omega) (Nat.le_of_lt h.lt)).mono ?_
  rintro e w' ⟨rfl, hb, hbl, hk⟩
  refine ⟨rfl, .inr ?_, hbl, hk⟩
  simpa [Lib.byteCells, Lib.strCells] using hb

theorem bstring (b : Nat) (l : List UInt8) (w : World) (h : BAt b l w) : Calls Tryz.prog 115 #[ptr b] w fun e w' => e = .returned (vs l) ∧ Below b w w' :=
  Tryz.Builder_String_any b b l w h (Nat.le_of_lt h.lt)

end Go.Proofs.YtobmnnihmbdfjaaGreat
