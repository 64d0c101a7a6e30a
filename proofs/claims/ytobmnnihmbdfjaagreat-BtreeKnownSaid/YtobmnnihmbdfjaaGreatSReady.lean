/- space.ready and space.write in a transaction. -/
import Derived.Test.YtobmnnihmbdfjaaGreatSRead
set_option linter.all false
namespace Go.Proofs.YtobmnnihmbdfjaaGreat
open Go.RowKit

set_option maxRecDepth 100000 in
set_option maxHeartbeats 2000000 in
theorem sready_ok {w pb tb mb lb L sv op base tx} (h : PgIn w pb tb mb lb L sv op base tx) (hp : 1 ≤ tx.pages) (hl : (tx.view base 1).length = 512) (hd : Hdr) (ht : takeH (tx.view base 1) = some hd) :
    Calls Tryz.prog 122 #[ptr pb] w fun e w' => e = .returned (.tuple #[hdrV hd, .int .i64 0]) ∧ Below w.heap.size w w' := by
  have g1 : (tx.pages == 0) = false := by simp; omega
  have H := Lib.hid h
  have SR := fun W (hb : Below w.heap.size w W) => sread_ok (h.below hb) hp hl hd ht
  have HSR := Lib.hid SR
  have hp' := Lib.hid hp
  clear h ht hl hp SR
  obtain ⟨fr, co, cm, r0, r1, r2, r3, r4, r5, r6, r7⟩ := hd
  go_enter Tryz.func122, Tryz.ntmps122
  go_wp2_with (go_at_call 51; refine (HSR.out _ ((Below.refl _ _).alloc (Nat.le_refl _) _)).mono ?_; rintro e w1 ⟨rfl, hb1⟩)
  have Z1 := Below.get hb1 (heap_alloc_new w (.cells zArr 110))
  have HB1 := Lib.hid (((Below.refl w.heap.size w).alloc (Nat.le_refl _) _).trans (hb1.mono (by simp)))
  have lw : w.heap.size < w1.heap.size := by have := lt_of_block Z1; exact this
  have ne1 : w.heap.size ≠ w1.heap.size := by omega
  have HZ1 := Lib.hid Z1
  clear hb1 Z1
  have p0 : w1.cell? ⟨w.heap.size, 0, none⟩ = some (.int .i64 0) := cellAt HZ1.out 0
  have pf0 : w1.frozen? ⟨w.heap.size, 0, none⟩ = false := freeAt HZ1.out 0
  have p1 : w1.cell? ⟨w.heap.size, 1, none⟩ = some (.int .i64 0) := cellAt HZ1.out 1
  have pf1 : w1.frozen? ⟨w.heap.size, 1, none⟩ = false := freeAt HZ1.out 1
  have p2 : w1.cell? ⟨w.heap.size, 2, none⟩ = some (.int .u64 0) := cellAt HZ1.out 2
  have pf2 : w1.frozen? ⟨w.heap.size, 2, none⟩ = false := freeAt HZ1.out 2
  have p3 : w1.cell? ⟨w.heap.size, 3, none⟩ = some (.int .i64 0) := cellAt HZ1.out 3
  have pf3 : w1.frozen? ⟨w.heap.size, 3, none⟩ = false := freeAt HZ1.out 3
  have p4 : w1.cell? ⟨w.heap.size, 4, none⟩ = some (.int .i64 0) := cellAt HZ1.out 4
  have pf4 : w1.frozen? ⟨w.heap.size, 4, none⟩ = false := freeAt HZ1.out 4
  have p5 : w1.cell? ⟨w.heap.size, 5, none⟩ = some (.int .i64 0) := cellAt HZ1.out 5
  have pf5 : w1.frozen? ⟨w.heap.size, 5, none⟩ = false := freeAt HZ1.out 5
  have p6 : w1.cell? ⟨w.heap.size, 6, none⟩ = some (.int .i64 0) := cellAt HZ1.out 6
  have pf6 : w1.frozen? ⟨w.heap.size, 6, none⟩ = false := freeAt HZ1.out 6
  have p7 : w1.cell? ⟨w.heap.size, 7, none⟩ = some (.int .i64 0) := cellAt HZ1.out 7
  have pf7 : w1.frozen? ⟨w.heap.size, 7, none⟩ = false := freeAt HZ1.out 7
  have p8 : w1.cell? ⟨w.heap.size, 8, none⟩ = some (.int .i64 0) := cellAt HZ1.out 8
  have pf8 : w1.frozen? ⟨w.heap.size, 8, none⟩ = false := freeAt HZ1.out 8
  have p9 : w1.cell? ⟨w.heap.size, 9, none⟩ = some (.int .i64 0) := cellAt HZ1.out 9
  have pf9 : w1.frozen? ⟨w.heap.size, 9, none⟩ = false := freeAt HZ1.out 9
  have p10 : w1.cell? ⟨w.heap.size, 10, none⟩ = some (.int .i64 0) := cellAt HZ1.out 10
  have pf10 : w1.frozen? ⟨w.heap.size, 10, none⟩ = false := freeAt HZ1.out 10
  have HB2 := Lib.hid (HB1.out.alloc (Nat.le_of_lt lw) (.cells #[.int .i64 fr, .int .i64 co, .int .u64 cm, .int .i64 r0, .int .i64 r1, .int .i64 r2, .int .i64 r3, .int .i64 r4, .int .i64 r5, .int .i64 r6, .int .i64 r7] 110))
  have HZ2 := Lib.hid (heapOld HZ1.out (.cells #[.int .i64 fr, .int .i64 co, .int .u64 cm, .int .i64 r0, .int .i64 r1, .int .i64 r2, .int .i64 r3, .int .i64 r4, .int .i64 r5, .int .i64 r6, .int .i64 r7] 110))
  go_wp2_with (first | (go_at_call 38; refine (pages_in (H.out.below HB2.out)).mono ?_; rintro e w2 ⟨rfl, rfl⟩) | (go_at_call 76; refine (write_in_range (H.out.below HB2.out) 0 (.inl (by omega)) _).mono ?_; rintro e w3 ⟨rfl, rfl⟩))
  have hW := heapOld (set11 (.int .i64 fr) (.int .i64 co) (.int .u64 cm) (.int .i64 r0) (.int .i64 r1) (.int .i64 r2) (.int .i64 r3) (.int .i64 r4) (.int .i64 r5) (.int .i64 r6) (.int .i64 r7) HZ1.out) (.cells #[.int .i64 fr, .int .i64 co, .int .u64 cm, .int .i64 r0, .int .i64 r1, .int .i64 r2, .int .i64 r3, .int .i64 r4, .int .i64 r5, .int .i64 r6, .int .i64 r7] 110)
  have hB := (below11 (.int .i64 fr) (.int .i64 co) (.int .u64 cm) (.int .i64 r0) (.int .i64 r1) (.int .i64 r2) (.int .i64 r3) (.int .i64 r4) (.int .i64 r5) (.int .i64 r6) (.int .i64 r7) HB1.out (Nat.le_refl _)).alloc (by simp [World.setCell]; omega) (.cells #[.int .i64 fr, .int .i64 co, .int .u64 cm, .int .i64 r0, .int .i64 r1, .int .i64 r2, .int .i64 r3, .int .i64 r4, .int .i64 r5, .int .i64 r6, .int .i64 r7] 110)
  clear p0 pf0 p1 pf1 p2 pf2 p3 pf3 p4 pf4 p5 pf5 p6 pf6 p7 pf7 p8 pf8 p9 pf9 p10 pf10
  generalize ((((((((((((w1.setCell ⟨w.heap.size, 0, none⟩ (.int .i64 fr)).setCell ⟨w.heap.size, 1, none⟩ (.int .i64 co)).setCell ⟨w.heap.size, 2, none⟩ (.int .u64 cm)).setCell ⟨w.heap.size, 3, none⟩ (.int .i64 r0)).setCell ⟨w.heap.size, 4, none⟩ (.int .i64 r1)).setCell ⟨w.heap.size, 5, none⟩ (.int .i64 r2)).setCell ⟨w.heap.size, 6, none⟩ (.int .i64 r3)).setCell ⟨w.heap.size, 7, none⟩ (.int .i64 r4)).setCell ⟨w.heap.size, 8, none⟩ (.int .i64 r5)).setCell ⟨w.heap.size, 9, none⟩ (.int .i64 r6)).setCell ⟨w.heap.size, 10, none⟩ (.int .i64 r7)).alloc (.cells #[.int .i64 fr, .int .i64 co, .int .u64 cm, .int .i64 r0, .int .i64 r1, .int .i64 r2, .int .i64 r3, .int .i64 r4, .int .i64 r5, .int .i64 r6, .int .i64 r7] 110)) = W at *
  have rr0 : W.cell? ⟨w.heap.size, 0, none⟩ = some (.int .i64 fr) := cellAt hW 0
  have rr1 : W.cell? ⟨w.heap.size, 1, none⟩ = some (.int .i64 co) := cellAt hW 1
  have rr2 : W.cell? ⟨w.heap.size, 2, none⟩ = some (.int .u64 cm) := cellAt hW 2
  have rr3 : W.cell? ⟨w.heap.size, 3, none⟩ = some (.int .i64 r0) := cellAt hW 3
  have rr4 : W.cell? ⟨w.heap.size, 4, none⟩ = some (.int .i64 r1) := cellAt hW 4
  have rr5 : W.cell? ⟨w.heap.size, 5, none⟩ = some (.int .i64 r2) := cellAt hW 5
  have rr6 : W.cell? ⟨w.heap.size, 6, none⟩ = some (.int .i64 r3) := cellAt hW 6
  have rr7 : W.cell? ⟨w.heap.size, 7, none⟩ = some (.int .i64 r4) := cellAt hW 7
  have rr8 : W.cell? ⟨w.heap.size, 8, none⟩ = some (.int .i64 r5) := cellAt hW 8
  have rr9 : W.cell? ⟨w.heap.size, 9, none⟩ = some (.int .i64 r6) := cellAt hW 9
  have rr10 : W.cell? ⟨w.heap.size, 10, none⟩ = some (.int .i64 r7) := cellAt hW 10
  exact bodyPost_ret (v := .tuple #[.agg #[.int .i64 fr, .int .i64 co, .int .u64 cm, .int .i64 r0, .int .i64 r1, .int .i64 r2, .int .i64 r3, .int .i64 r4, .int .i64 r5, .int .i64 r6, .int .i64 r7], .int .i64 0]) (by simp [results, Tryz.results122, go_sem, rr0, rr1, rr2, rr3, rr4, rr5, rr6, rr7, rr8, rr9, rr10]; try rfl) rfl ⟨rfl, hB⟩

end Go.Proofs.YtobmnnihmbdfjaaGreat
