/- Pages of trees: the small functions of package node. -/
import Derived.Test.YtobmnnihmbdfjaaGreatBuilder
set_option linter.all false
namespace Go.Proofs.YtobmnnihmbdfjaaGreat
open Go.RowKit

structure CellM where
  key : List UInt8
  size : Int
  loc : List UInt8
  page : Int
  deriving DecidableEq
structure NodeM where
  kind : Int
  first : Int
  cells : List CellM
  data : List UInt8
  deriving DecidableEq

def pageN (n least : Int) : Bool := decide (least ≤ n) && decide (n ≤ 256)
def cellB (kind : Int) (c : CellM) : Bool :=
  if 100 < c.key.length then false
  else if kind = 2 then (c.size == 0) && (c.loc == []) && pageN c.page 1
  else if c.size < 0 ∨ 4000 < c.size ∨ (c.loc.length : Int) ≠ min c.size 100 then false
  else if 100 < c.size then pageN c.page 1 else c.page == 0

abbrev cellV (c : CellM) : Value := .agg #[vs c.key, .int .i64 c.size, vs c.loc, .int .i64 c.page]

set_option maxHeartbeats 400000 in
theorem npage_any (n m : Int) (w : World) : Calls Tryz.prog 238 #[.int .i64 n, .int .i64 m] w fun e w' => e = .returned (.bool (pageN n m)) ∧ w = w' := by
  by_cases h : m ≤ n
  · by_cases h2 : n ≤ 256
    · have HB := Lib.hid (show pageN n m = true by simp [pageN, h, h2])
      go_enter Tryz.func238, Tryz.ntmps238
      go_wp2
      go_ret
      exact ⟨by rw [HB.out]; simp, rfl⟩
    · have HB := Lib.hid (show pageN n m = false by simp [pageN, h2])
      go_enter Tryz.func238, Tryz.ntmps238
      go_wp2
      go_ret
      exact ⟨by rw [HB.out]; simp, rfl⟩
  · have HB := Lib.hid (show pageN n m = false by simp [pageN, h])
    go_enter Tryz.func238, Tryz.ntmps238
    go_wp2
    go_ret
    exact ⟨by rw [HB.out]; simp, rfl⟩

/-- A number below 2^16 in two bytes. -/
def two (n : Int) : List UInt8 := [byteOf (n / 256), byteOf n]
theorem two_length (n : Int) : (two n).length = 2 := rfl

theorem mk2 (w : World) : (Instr.makeSlice 92 (.int .i64 2) (.int .i64 2)).run Tryz.prog w = .ok (.slice (some ⟨w.heap.size, 0, none⟩) 2 2) (w.alloc (.cells #[.int .u8 0, .int .u8 0] 5)) := by kernel_rfl
theorem mk4 (w : World) : (Instr.makeSlice 92 (.int .i64 4) (.int .i64 4)).run Tryz.prog w = .ok (.slice (some ⟨w.heap.size, 0, none⟩) 4 4) (w.alloc (.cells #[.int .u8 0, .int .u8 0, .int .u8 0, .int .u8 0] 5)) := by kernel_rfl

theorem conv_two (w : World) (a b : Int) (C : TypeId) :
  (convert 92 9 (Value.slice (some { block := w.heap.size, off := 0 }) 2 2)).run Tryz.prog (w.alloc (Obj.cells #[.int .u8 a, .int .u8 b] C)) = .ok (.string (strOfNums [a,b])) (w.alloc (Obj.cells #[.int .u8 a, .int .u8 b] C)) := by
  refine run_convert_bytes_arg (P := Tryz.prog) (w.alloc _) 92 5 Tryz.underlying92 Tryz.underlying5 w.heap.size 0 2 2 [a,b] rfl ?_ 9 Tryz.underlying9
  intro i hi
  match i, hi with
  | 0, _ => simp
  | 1, _ => simp

set_option maxRecDepth 100000 in
set_option maxHeartbeats 1000000 in
theorem number2_any (n : Int) (h0 : 0 ≤ n) (h1 : n ≤ 1000000) (w : World) : Calls Tryz.prog 241 #[.int .i64 n, .int .i64 2] w fun e w' => e = .returned (vs (two n)) ∧ Below w.heap.size w w' := by
  have hm := mk2
  have hc := conv_two
  go_enter Tryz.func241, Tryz.ntmps241
  go_wp2
  refine wp_loop_rounds 3 ?_
  rw [rounds_succ]
  go_wp2
  rw [rounds_succ]
  go_wp2
  rw [rounds_succ]
  go_wp2
  go_ret
  exact ⟨by simp [strOfNums, two, byteOf], (Below.refl _ _).alloc (Nat.le_refl _) _⟩

set_option maxRecDepth 100000 in
set_option maxHeartbeats 1000000 in
theorem number4_any (n : Int) (h0 : 0 ≤ n) (h1 : n ≤ 1000000) (w : World) : Calls Tryz.prog 241 #[.int .i64 n, .int .i64 4] w fun e w' => e = .returned (vs (four n)) ∧ Below w.heap.size w w' := by
  have hm := mk4
  have hc := conv_four
  go_enter Tryz.func241, Tryz.ntmps241
  go_wp2
  refine wp_loop_rounds 5 ?_
  rw [rounds_succ]
  go_wp2
  rw [rounds_succ]
  go_wp2
  rw [rounds_succ]
  go_wp2
  rw [rounds_succ]
  go_wp2
  rw [rounds_succ]
  go_wp2
  go_ret
  have e1 : n / 16777216 % 256 = n / 16777216 := by omega
  have e2 : n / 65536 % 256 = n / 65536 := by omega
  exact ⟨by simp [strOfNums, four, byteOf, e1, e2], (Below.refl _ _).alloc (Nat.le_refl _) _⟩

theorem int_beq_false {a b : Int} (h : ¬ a = b) : (a == b) = false := by simpa using h

set_option maxRecDepth 100000 in
set_option maxHeartbeats 1000000 in
theorem cell_any (k : Int) (c : CellM) (hk : c.key.length ≤ 1000000) (hl : c.loc.length ≤ 1000000) (w : World) : Calls Tryz.prog 239 #[.int .u8 k, cellV c] w fun e w' => e = .returned (.bool (cellB k c)) ∧ Below w.heap.size w w' := by
  obtain ⟨key, size, loc, page⟩ := c
  simp only at hk hl
  have hb : ∀ (v : Value), Below w.heap.size w (w.alloc (.cells #[vs key, .int .i64 size, vs loc, .int .i64 page] 144)) := fun _ => (Below.refl _ _).alloc (Nat.le_refl _) _
  by_cases a1 : 100 < key.length
  · have HB := Lib.hid (show cellB k ⟨key, size, loc, page⟩ = false by simp [cellB, a1])
    have a1' : (100 : Int) < (key.length : Int) := by omega
    clear a1
    go_enter Tryz.func239, Tryz.ntmps239
    go_wp2
    go_ret
    exact ⟨by rw [HB.out]; rfl, hb (.bool true)⟩
  have a1' : ¬ (100 : Int) < (key.length : Int) := by omega
  by_cases a2 : k = 2
  · subst a2
    by_cases a3 : size = 0
    · subst a3
      by_cases a4 : loc = []
      · subst a4
        have HB := Lib.hid (show cellB 2 ⟨key, 0, [], page⟩ = pageN page 1 by simp [cellB, a1])
        clear a1 hk hl
        go_enter Tryz.func239, Tryz.ntmps239
        go_wp2_with (go_at_call 238; refine (npage_any _ _ _).mono ?_; rintro e w' ⟨rfl, rfl⟩)
        go_ret
        exact ⟨by rw [HB.out]; rfl, hb (.bool true)⟩
      · have HB := Lib.hid (show cellB 2 ⟨key, 0, loc, page⟩ = false by simp [cellB, a1, a4])
        have a4' : (loc == []) = false := by simpa using a4
        have a5 : loc.isEmpty = false := by simpa using a4
        clear a1 a4 hk
        go_enter Tryz.func239, Tryz.ntmps239
        go_wp2_with (go_at_call 238; refine (npage_any _ _ _).mono ?_; rintro e w' ⟨rfl, rfl⟩)
        go_ret
        exact ⟨by rw [HB.out]; rfl, hb (.bool true)⟩
    · have HB := Lib.hid (show cellB 2 ⟨key, size, loc, page⟩ = false by simp [cellB, a1, a3])
      have a3' := int_beq_false a3
      clear a1 a3 hk
      go_enter Tryz.func239, Tryz.ntmps239
      go_wp2_with (go_at_call 238; refine (npage_any _ _ _).mono ?_; rintro e w' ⟨rfl, rfl⟩)
      go_ret
      exact ⟨by rw [HB.out]; rfl, hb (.bool true)⟩
  have a2' := int_beq_false a2
  by_cases b1 : size < 0
  · have HB := Lib.hid (show cellB k ⟨key, size, loc, page⟩ = false by simp [cellB, a1, a2, b1])
    clear a1 a2 hk
    go_enter Tryz.func239, Tryz.ntmps239
    go_wp2
    go_ret
    exact ⟨by rw [HB.out]; rfl, hb (.bool true)⟩
  by_cases b2 : 4000 < size
  · have HB := Lib.hid (show cellB k ⟨key, size, loc, page⟩ = false by simp [cellB, a1, a2, b2])
    clear a1 a2 hk
    go_enter Tryz.func239, Tryz.ntmps239
    go_wp2
    go_ret
    exact ⟨by rw [HB.out]; rfl, hb (.bool true)⟩
  by_cases b3 : (loc.length : Int) = min size 100
  · have b3' : ((loc.length : Int) != min size 100) = false := by simp [b3]
    have B3 := Lib.hid b3
    clear b3
    by_cases b4 : 100 < size
    · have HB := Lib.hid (show cellB k ⟨key, size, loc, page⟩ = pageN page 1 by simp [cellB, a1, a2, b1, b2, B3.out, b4])
      clear a1 a2 hk
      go_enter Tryz.func239, Tryz.ntmps239
      go_wp2_with (go_at_call 238; refine (npage_any _ _ _).mono ?_; rintro e w' ⟨rfl, rfl⟩)
      go_ret
      exact ⟨by rw [HB.out]; rfl, hb (.bool true)⟩
    · have HB := Lib.hid (show cellB k ⟨key, size, loc, page⟩ = (page == 0) by simp [cellB, a1, a2, b1, b2, B3.out, b4])
      clear a1 a2 hk
      go_enter Tryz.func239, Tryz.ntmps239
      go_wp2
      go_ret
      exact ⟨by rw [HB.out]; rfl, hb (.bool true)⟩
  · have b3' : ((loc.length : Int) != min size 100) = true := by simpa using b3
    have HB := Lib.hid (show cellB k ⟨key, size, loc, page⟩ = false by simp [cellB, a1, a2, b1, b2, b3])
    clear a1 a2 hk b3
    go_enter Tryz.func239, Tryz.ntmps239
    go_wp2
    go_ret
    exact ⟨by rw [HB.out]; rfl, hb (.bool true)⟩

end Go.Proofs.YtobmnnihmbdfjaaGreat
