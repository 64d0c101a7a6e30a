/- The header of a database as bytes: what space.Put and space.Take compute. -/
import Derived.Test.YtobmnnihmbdfjaaGreatPager
set_option linter.all false
namespace Go.Proofs.YtobmnnihmbdfjaaGreat
open Go.RowKit

/-! ### Plain -/
structure Hdr where
  free : Int
  count : Int
  commits : Int
  r0 : Int
  r1 : Int
  r2 : Int
  r3 : Int
  r4 : Int
  r5 : Int
  r6 : Int
  r7 : Int

def hdrCells (h : Hdr) : Array Value := #[.int .i64 h.free, .int .i64 h.count, .int .u64 h.commits, .int .i64 h.r0, .int .i64 h.r1, .int .i64 h.r2, .int .i64 h.r3, .int .i64 h.r4, .int .i64 h.r5, .int .i64 h.r6, .int .i64 h.r7]
abbrev hdrV (h : Hdr) : Value := .agg #[.int .i64 h.free, .int .i64 h.count, .int .u64 h.commits, .int .i64 h.r0, .int .i64 h.r1, .int .i64 h.r2, .int .i64 h.r3, .int .i64 h.r4, .int .i64 h.r5, .int .i64 h.r6, .int .i64 h.r7]
def hdr0 : Hdr := ⟨0, 0, 0, 0, 0, 0, 0, 0, 0, 0, 0⟩

def pageB (n : Int) : Bool := decide (0 ≤ n) && decide (n ≤ 256)
def rootsB (h : Hdr) : Bool := pageB h.r0 && pageB h.r1 && pageB h.r2 && pageB h.r3 && pageB h.r4 && pageB h.r5 && pageB h.r6 && pageB h.r7
def mayB (h : Hdr) : Bool := rootsB h && (pageB h.free && (h.free != 1) && pageB h.count)

def cfword : List UInt8 := [99, 102, 45, 112, 97, 103, 101, 115]
def putH (h : Hdr) : List UInt8 := cfword ++ four h.free ++ four h.count ++ eight h.commits ++ four h.r0 ++ four h.r1 ++ four h.r2 ++ four h.r3 ++ four h.r4 ++ four h.r5 ++ four h.r6 ++ four h.r7 ++ zeros 456

theorem zeros_length (n : Nat) : (zeros n).length = n := List.length_replicate
theorem putH_length (h : Hdr) : (putH h).length = 512 := by
  simp only [putH, List.length_append, four_length, eight_length, zeros_length]
  rfl

def rawH (l : List UInt8) : Hdr :=
  ⟨takeFour (l.drop 8), takeFour (l.drop 12), takeEight (l.drop 16), takeFour (l.drop 24), takeFour (l.drop 28), takeFour (l.drop 32), takeFour (l.drop 36), takeFour (l.drop 40), takeFour (l.drop 44), takeFour (l.drop 48), takeFour (l.drop 52)⟩
def takeH (l : List UInt8) : Option Hdr :=
  if l.length = 512 then (if mayB (rawH l) && (putH (rawH l) == l) then some (rawH l) else none) else none

/-! ### Walks -/
theorem idx_0 (r0 r1 r2 r3 r4 r5 r6 r7 : Int) (w : World) : (Instr.index 108 (.agg #[.int .i64 r0, .int .i64 r1, .int .i64 r2, .int .i64 r3, .int .i64 r4, .int .i64 r5, .int .i64 r6, .int .i64 r7]) (.int .i64 0)).run Tryz.prog w = .ok (.int .i64 r0) w := by kernel_rfl
theorem idx_1 (r0 r1 r2 r3 r4 r5 r6 r7 : Int) (w : World) : (Instr.index 108 (.agg #[.int .i64 r0, .int .i64 r1, .int .i64 r2, .int .i64 r3, .int .i64 r4, .int .i64 r5, .int .i64 r6, .int .i64 r7]) (.int .i64 1)).run Tryz.prog w = .ok (.int .i64 r1) w := by kernel_rfl
theorem idx_2 (r0 r1 r2 r3 r4 r5 r6 r7 : Int) (w : World) : (Instr.index 108 (.agg #[.int .i64 r0, .int .i64 r1, .int .i64 r2, .int .i64 r3, .int .i64 r4, .int .i64 r5, .int .i64 r6, .int .i64 r7]) (.int .i64 2)).run Tryz.prog w = .ok (.int .i64 r2) w := by kernel_rfl
theorem idx_3 (r0 r1 r2 r3 r4 r5 r6 r7 : Int) (w : World) : (Instr.index 108 (.agg #[.int .i64 r0, .int .i64 r1, .int .i64 r2, .int .i64 r3, .int .i64 r4, .int .i64 r5, .int .i64 r6, .int .i64 r7]) (.int .i64 3)).run Tryz.prog w = .ok (.int .i64 r3) w := by kernel_rfl
theorem idx_4 (r0 r1 r2 r3 r4 r5 r6 r7 : Int) (w : World) : (Instr.index 108 (.agg #[.int .i64 r0, .int .i64 r1, .int .i64 r2, .int .i64 r3, .int .i64 r4, .int .i64 r5, .int .i64 r6, .int .i64 r7]) (.int .i64 4)).run Tryz.prog w = .ok (.int .i64 r4) w := by kernel_rfl
theorem idx_5 (r0 r1 r2 r3 r4 r5 r6 r7 : Int) (w : World) : (Instr.index 108 (.agg #[.int .i64 r0, .int .i64 r1, .int .i64 r2, .int .i64 r3, .int .i64 r4, .int .i64 r5, .int .i64 r6, .int .i64 r7]) (.int .i64 5)).run Tryz.prog w = .ok (.int .i64 r5) w := by kernel_rfl
theorem idx_6 (r0 r1 r2 r3 r4 r5 r6 r7 : Int) (w : World) : (Instr.index 108 (.agg #[.int .i64 r0, .int .i64 r1, .int .i64 r2, .int .i64 r3, .int .i64 r4, .int .i64 r5, .int .i64 r6, .int .i64 r7]) (.int .i64 6)).run Tryz.prog w = .ok (.int .i64 r6) w := by kernel_rfl
theorem idx_7 (r0 r1 r2 r3 r4 r5 r6 r7 : Int) (w : World) : (Instr.index 108 (.agg #[.int .i64 r0, .int .i64 r1, .int .i64 r2, .int .i64 r3, .int .i64 r4, .int .i64 r5, .int .i64 r6, .int .i64 r7]) (.int .i64 7)).run Tryz.prog w = .ok (.int .i64 r7) w := by kernel_rfl

theorem pageB_iff (n : Int) : pageB n = true ↔ 0 ≤ n ∧ n ≤ 256 := by simp [pageB]

set_option maxHeartbeats 400000 in
theorem page_any (n : Int) (w : World) : Calls Tryz.prog 259 #[.int .i64 n] w fun e w' => e = .returned (.bool (pageB n)) ∧ w = w' := by
  by_cases h : 0 ≤ n
  · by_cases h2 : n ≤ 256
    · have hb : pageB n = true := by simp [pageB, h, h2]
      have HB := Lib.hid hb
      clear hb
      go_enter Tryz.func259, Tryz.ntmps259
      go_wp2
      go_ret
      exact ⟨by rw [HB.out]; simp, rfl⟩
    · have hb : pageB n = false := by simp [pageB, h2]
      have HB := Lib.hid hb
      clear hb
      go_enter Tryz.func259, Tryz.ntmps259
      go_wp2
      go_ret
      exact ⟨by rw [HB.out]; simp, rfl⟩
  · have hb : pageB n = false := by simp [pageB, h]
    have HB := Lib.hid hb
    clear hb
    go_enter Tryz.func259, Tryz.ntmps259
    go_wp2
    go_ret
    exact ⟨by rw [HB.out]; simp, rfl⟩

set_option maxRecDepth 100000 in
set_option maxHeartbeats 1000000 in
theorem may_any (h : Hdr) (w : World) : Calls Tryz.prog 236 #[hdrV h] w fun e w' => e = .returned (.bool (mayB h)) ∧ Below w.heap.size w w' := by
  obtain ⟨fr, co, cm, r0, r1, r2, r3, r4, r5, r6, r7⟩ := h
  have i0 := idx_0 r0 r1 r2 r3 r4 r5 r6 r7
  have i1 := idx_1 r0 r1 r2 r3 r4 r5 r6 r7
  have i2 := idx_2 r0 r1 r2 r3 r4 r5 r6 r7
  have i3 := idx_3 r0 r1 r2 r3 r4 r5 r6 r7
  have i4 := idx_4 r0 r1 r2 r3 r4 r5 r6 r7
  have i5 := idx_5 r0 r1 r2 r3 r4 r5 r6 r7
  have i6 := idx_6 r0 r1 r2 r3 r4 r5 r6 r7
  have i7 := idx_7 r0 r1 r2 r3 r4 r5 r6 r7
  go_enter Tryz.func236, Tryz.ntmps236
  go_wp2_with (go_at_call 259; refine (page_any _ _).mono ?_; rintro e w' ⟨rfl, rfl⟩)
  refine wp_loop_rounds 9 ?_
  rw [rounds_succ]
  go_wp2_with (go_at_call 259; refine (page_any _ _).mono ?_; rintro e w' ⟨rfl, rfl⟩)
  · go_ret
    refine ⟨?_, (Below.refl _ _).alloc (Nat.le_refl _) _⟩
    have b : pageB r0 = false := by simp_all
    simp [mayB, rootsB, b]
  have b0 : pageB r0 = true := by simp_all
  rw [rounds_succ]
  go_wp2_with (go_at_call 259; refine (page_any _ _).mono ?_; rintro e w' ⟨rfl, rfl⟩)
  · go_ret
    refine ⟨?_, (Below.refl _ _).alloc (Nat.le_refl _) _⟩
    have b : pageB r1 = false := by simp_all
    simp [mayB, rootsB, b]
  have b1 : pageB r1 = true := by simp_all
  rw [rounds_succ]
  go_wp2_with (go_at_call 259; refine (page_any _ _).mono ?_; rintro e w' ⟨rfl, rfl⟩)
  · go_ret
    refine ⟨?_, (Below.refl _ _).alloc (Nat.le_refl _) _⟩
    have b : pageB r2 = false := by simp_all
    simp [mayB, rootsB, b]
  have b2 : pageB r2 = true := by simp_all
  rw [rounds_succ]
  go_wp2_with (go_at_call 259; refine (page_any _ _).mono ?_; rintro e w' ⟨rfl, rfl⟩)
  · go_ret
    refine ⟨?_, (Below.refl _ _).alloc (Nat.le_refl _) _⟩
    have b : pageB r3 = false := by simp_all
    simp [mayB, rootsB, b]
  have b3 : pageB r3 = true := by simp_all
  rw [rounds_succ]
  go_wp2_with (go_at_call 259; refine (page_any _ _).mono ?_; rintro e w' ⟨rfl, rfl⟩)
  · go_ret
    refine ⟨?_, (Below.refl _ _).alloc (Nat.le_refl _) _⟩
    have b : pageB r4 = false := by simp_all
    simp [mayB, rootsB, b]
  have b4 : pageB r4 = true := by simp_all
  rw [rounds_succ]
  go_wp2_with (go_at_call 259; refine (page_any _ _).mono ?_; rintro e w' ⟨rfl, rfl⟩)
  · go_ret
    refine ⟨?_, (Below.refl _ _).alloc (Nat.le_refl _) _⟩
    have b : pageB r5 = false := by simp_all
    simp [mayB, rootsB, b]
  have b5 : pageB r5 = true := by simp_all
  rw [rounds_succ]
  go_wp2_with (go_at_call 259; refine (page_any _ _).mono ?_; rintro e w' ⟨rfl, rfl⟩)
  · go_ret
    refine ⟨?_, (Below.refl _ _).alloc (Nat.le_refl _) _⟩
    have b : pageB r6 = false := by simp_all
    simp [mayB, rootsB, b]
  have b6 : pageB r6 = true := by simp_all
  rw [rounds_succ]
  go_wp2_with (go_at_call 259; refine (page_any _ _).mono ?_; rintro e w' ⟨rfl, rfl⟩)
  · go_ret
    refine ⟨?_, (Below.refl _ _).alloc (Nat.le_refl _) _⟩
    have b : pageB r7 = false := by simp_all
    simp [mayB, rootsB, b]
  have b7 : pageB r7 = true := by simp_all
  rw [rounds_succ]
  go_wp2_with (go_at_call 259; refine (page_any _ _).mono ?_; rintro e w' ⟨rfl, rfl⟩)
  all_goals
    go_ret
    refine ⟨?_, (Below.refl _ _).alloc (Nat.le_refl _) _⟩
    simp only [mayB, rootsB, b0, b1, b2, b3, b4, b5, b6, b7]
    simp_all

theorem keepB {W w' : World} {B : World} {P : Prop} (h : Below B.heap.size B W ∧ P) (hb : Below W.heap.size W w') : Below B.heap.size B w' := h.1.trans (hb.mono h.1.size)
theorem keep3 {W w' B : World} {b : Nat} {v0 v1 v2 : Value} (h : Below B.heap.size B W ∧ W.cell? ⟨b, 0, none⟩ = some v0 ∧ W.cell? ⟨b, 1, none⟩ = some v1 ∧ W.cell? ⟨b, 2, none⟩ = some v2) (hb : Below W.heap.size W w') :
    Below B.heap.size B w' ∧ w'.cell? ⟨b, 0, none⟩ = some v0 ∧ w'.cell? ⟨b, 1, none⟩ = some v1 ∧ w'.cell? ⟨b, 2, none⟩ = some v2 :=
  ⟨h.1.trans (hb.mono h.1.size), cell_later hb h.2.1, cell_later hb h.2.2.1, cell_later hb h.2.2.2⟩

theorem mayB_bounds {h : Hdr} (hm : mayB h = true) : (0 ≤ h.free ∧ h.free ≤ 256) ∧ (0 ≤ h.count ∧ h.count ≤ 256) ∧ (0 ≤ h.r0 ∧ h.r0 ≤ 256) ∧ (0 ≤ h.r1 ∧ h.r1 ≤ 256) ∧ (0 ≤ h.r2 ∧ h.r2 ≤ 256) ∧ (0 ≤ h.r3 ∧ h.r3 ≤ 256) ∧ (0 ≤ h.r4 ∧ h.r4 ≤ 256) ∧ (0 ≤ h.r5 ∧ h.r5 ≤ 256) ∧ (0 ≤ h.r6 ∧ h.r6 ≤ 256) ∧ (0 ≤ h.r7 ∧ h.r7 ≤ 256) := by
  simp only [mayB, rootsB, Bool.and_eq_true, pageB_iff] at hm
  obtain ⟨⟨⟨⟨⟨⟨⟨⟨a0, a1⟩, a2⟩, a3⟩, a4⟩, a5⟩, a6⟩, a7⟩, ⟨b, -⟩, c⟩ := hm
  exact ⟨b, c, a0, a1, a2, a3, a4, a5, a6, a7⟩

set_option maxRecDepth 100000 in
set_option maxHeartbeats 1000000 in
theorem put_bad (h : Hdr) (hm : mayB h = false) (w : World) : Calls Tryz.prog 180 #[hdrV h] w fun e w' => e = .returned (.tuple #[vs [], .int .i64 2]) ∧ Below w.heap.size w w' := by
  have M := may_any h
  rw [hm] at M
  have HM := Lib.hid M
  clear M hm
  obtain ⟨fr, co, cm, r0, r1, r2, r3, r4, r5, r6, r7⟩ := h
  go_enter Tryz.func180, Tryz.ntmps180
  go_wp2_with (go_at_call 236; refine (HM.out _).mono ?_; rintro e w1 ⟨rfl, hb⟩)
  go_ret2
  exact ⟨rfl, ((Below.refl _ _).alloc (Nat.le_refl _) _).trans (hb.mono (by simp))⟩

set_option maxRecDepth 100000 in
set_option maxHeartbeats 1000000 in
theorem put_ok (h : Hdr) (hm : mayB h = true) (hc0 : 0 ≤ h.commits / 4294967296) (hc1 : h.commits / 4294967296 < 4294967296) (w : World) : Calls Tryz.prog 180 #[hdrV h] w fun e w' => e = .returned (.tuple #[vs (putH h), .int .i64 0]) ∧ Below w.heap.size w w' := by
  have M := may_any h
  rw [hm] at M
  have HM := Lib.hid M
  obtain ⟨⟨bf0, bf1⟩, ⟨bc0, bc1⟩, ⟨q00, q01⟩, ⟨q10, q11⟩, ⟨q20, q21⟩, ⟨q30, q31⟩, ⟨q40, q41⟩, ⟨q50, q51⟩, ⟨q60, q61⟩, ⟨q70, q71⟩⟩ := mayB_bounds hm
  clear M hm
  obtain ⟨fr, co, cm, r0, r1, r2, r3, r4, r5, r6, r7⟩ := h
  simp only at *
  have i0 := idx_0 r0 r1 r2 r3 r4 r5 r6 r7
  have i1 := idx_1 r0 r1 r2 r3 r4 r5 r6 r7
  have i2 := idx_2 r0 r1 r2 r3 r4 r5 r6 r7
  have i3 := idx_3 r0 r1 r2 r3 r4 r5 r6 r7
  have i4 := idx_4 r0 r1 r2 r3 r4 r5 r6 r7
  have i5 := idx_5 r0 r1 r2 r3 r4 r5 r6 r7
  have i6 := idx_6 r0 r1 r2 r3 r4 r5 r6 r7
  have i7 := idx_7 r0 r1 r2 r3 r4 r5 r6 r7
  have H8 := Lib.hid (And.intro hc0 hc1)
  have l4 := four_length
  have l8 := eight_length
  clear hc0 hc1
  go_enter Tryz.func180, Tryz.ntmps180
  go_wp2_with (go_at_call 236; refine (HM.out _).mono ?_; rintro e w1 ⟨rfl, hb⟩)
  have hbk := Below.get hb (heap_alloc_new w _)
  have d0 : w1.cell? ⟨w.heap.size, 0, none⟩ = some (.int .i64 fr) := cellAt hbk 0
  have d1 : w1.cell? ⟨w.heap.size, 1, none⟩ = some (.int .i64 co) := cellAt hbk 1
  have d2 : w1.cell? ⟨w.heap.size, 2, none⟩ = some (.int .u64 cm) := cellAt hbk 2
  have HB := Lib.hid (((Below.refl _ _).alloc (Nat.le_refl _) _).trans (hb.mono (by simp)) : Below w.heap.size w w1)
  have HK := Lib.hid hbk
  clear hb hbk
  go_region_held3 (fun w' => Below w1.heap.size w1 w' ∧ w'.cell? ⟨w.heap.size, 0, none⟩ = some (.int .i64 fr) ∧ w'.cell? ⟨w.heap.size, 1, none⟩ = some (.int .i64 co) ∧ w'.cell? ⟨w.heap.size, 2, none⟩ = some (.int .u64 cm))
    (first | exact keep3 (by assumption) hb | (refine ⟨(Below.refl _ _).drew, ?_, ?_, ?_⟩; exact d0; exact d1; exact d2))
    (first | (go_at_call 237; refine (four_any _ _).mono ?_; rintro e w' ⟨rfl, hb⟩) | (go_at_call 208; refine (eight_any _ _ H8.out.1 H8.out.2).mono ?_; rintro e w' ⟨rfl, hb⟩))
  have hS := (‹Below w1.heap.size w1 w' ∧ _›).1
  have hk' := Below.get hS HK.out
  have e0 : w'.cell? ⟨w.heap.size, 3, none⟩ = some (.int .i64 r0) := cellAt hk' 3
  have e1 : w'.cell? ⟨w.heap.size, 4, none⟩ = some (.int .i64 r1) := cellAt hk' 4
  have e2 : w'.cell? ⟨w.heap.size, 5, none⟩ = some (.int .i64 r2) := cellAt hk' 5
  have e3 : w'.cell? ⟨w.heap.size, 6, none⟩ = some (.int .i64 r3) := cellAt hk' 6
  have e4 : w'.cell? ⟨w.heap.size, 7, none⟩ = some (.int .i64 r4) := cellAt hk' 7
  have e5 : w'.cell? ⟨w.heap.size, 8, none⟩ = some (.int .i64 r5) := cellAt hk' 8
  have e6 : w'.cell? ⟨w.heap.size, 9, none⟩ = some (.int .i64 r6) := cellAt hk' 9
  have e7 : w'.cell? ⟨w.heap.size, 10, none⟩ = some (.int .i64 r7) := cellAt hk' 10
  have HW := Lib.hid (HB.out.trans (hS.mono HB.out.size) : Below w.heap.size w w')
  clear hS hk' HK HB
  go_wp2_with fail
  refine wp_loop_rounds 9 ?_
  rw [rounds_succ]
  go_wp2_with (first | (go_at_call 237; refine (four_any _ _).mono ?_; rintro e w2 ⟨rfl, g0⟩) | (go_at_call 47; refine (repeat_zero _ (by simp) (by simp) _).mono ?_; rintro e w2 ⟨rfl, g0⟩))
  rw [rounds_succ]
  go_wp2_with (first | (go_at_call 237; refine (four_any _ _).mono ?_; rintro e w3 ⟨rfl, g1⟩) | (go_at_call 47; refine (repeat_zero _ (by simp) (by simp) _).mono ?_; rintro e w3 ⟨rfl, g1⟩))
  rw [rounds_succ]
  go_wp2_with (first | (go_at_call 237; refine (four_any _ _).mono ?_; rintro e w4 ⟨rfl, g2⟩) | (go_at_call 47; refine (repeat_zero _ (by simp) (by simp) _).mono ?_; rintro e w4 ⟨rfl, g2⟩))
  rw [rounds_succ]
  go_wp2_with (first | (go_at_call 237; refine (four_any _ _).mono ?_; rintro e w5 ⟨rfl, g3⟩) | (go_at_call 47; refine (repeat_zero _ (by simp) (by simp) _).mono ?_; rintro e w5 ⟨rfl, g3⟩))
  rw [rounds_succ]
  go_wp2_with (first | (go_at_call 237; refine (four_any _ _).mono ?_; rintro e w6 ⟨rfl, g4⟩) | (go_at_call 47; refine (repeat_zero _ (by simp) (by simp) _).mono ?_; rintro e w6 ⟨rfl, g4⟩))
  rw [rounds_succ]
  go_wp2_with (first | (go_at_call 237; refine (four_any _ _).mono ?_; rintro e w7 ⟨rfl, g5⟩) | (go_at_call 47; refine (repeat_zero _ (by simp) (by simp) _).mono ?_; rintro e w7 ⟨rfl, g5⟩))
  rw [rounds_succ]
  go_wp2_with (first | (go_at_call 237; refine (four_any _ _).mono ?_; rintro e w8 ⟨rfl, g6⟩) | (go_at_call 47; refine (repeat_zero _ (by simp) (by simp) _).mono ?_; rintro e w8 ⟨rfl, g6⟩))
  rw [rounds_succ]
  go_wp2_with (first | (go_at_call 237; refine (four_any _ _).mono ?_; rintro e w9 ⟨rfl, g7⟩) | (go_at_call 47; refine (repeat_zero _ (by simp) (by simp) _).mono ?_; rintro e w9 ⟨rfl, g7⟩))
  rw [rounds_succ]
  go_wp2_with (first | (go_at_call 237; refine (four_any _ _).mono ?_; rintro e w10 ⟨rfl, g8⟩) | (go_at_call 47; refine (repeat_zero _ (by simp) (by simp) _).mono ?_; rintro e w10 ⟨rfl, g8⟩))
  go_ret2
  refine ⟨?_, belowThen HW.out (belowThen g0 (belowThen g1 (belowThen g2 (belowThen g3 (belowThen g4 (belowThen g5 (belowThen g6 (belowThen g7 g8))))))))⟩
  simp only [bytes_append]
  rfl

end Go.Proofs.YtobmnnihmbdfjaaGreat
