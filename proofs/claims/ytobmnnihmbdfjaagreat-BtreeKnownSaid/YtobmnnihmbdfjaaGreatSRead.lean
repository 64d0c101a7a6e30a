/- space.Read in a transaction. -/
import Derived.Test.YtobmnnihmbdfjaaGreatTake
set_option linter.all false
namespace Go.Proofs.YtobmnnihmbdfjaaGreat
open Go.RowKit

theorem read_in {w pb tb mb lb L sv op base tx} (h : PgIn w pb tb mb lb L sv op base tx) (n : Int) (h1 : 1 ≤ n) (h2 : n ≤ tx.pages) :
    Calls Tryz.prog 42 #[ptr pb, .int .i64 n] w fun e w' => e = .returned (.tuple #[vs (tx.view base n), .int .i64 0]) ∧ Below w.heap.size w w' := by
  cases hs : tx.written n with
  | none => exact (read_in_base h n h1 h2 hs).mono fun e w' ⟨he, hb⟩ => ⟨by rw [he]; simp [Tx.view, hs], hb⟩
  | some s => exact (read_in_written h n h1 h2 s hs).mono fun e w' ⟨he, hb⟩ => ⟨by rw [he]; simp [Tx.view, hs], hb ▸ Below.refl _ _⟩

def zArr : Array Value := hArr 0 0 0 0 0 0 0 0 0 0 0

set_option maxRecDepth 100000 in
set_option maxHeartbeats 2000000 in
theorem sread_ok {w pb tb mb lb L sv op base tx} (h : PgIn w pb tb mb lb L sv op base tx) (hp : 1 ≤ tx.pages) (hl : (tx.view base 1).length = 512) (hd : Hdr) (ht : takeH (tx.view base 1) = some hd) :
    Calls Tryz.prog 51 #[ptr pb] w fun e w' => e = .returned (.tuple #[hdrV hd, .int .i64 0]) ∧ Below w.heap.size w w' := by
  have g1 : (tx.pages == 0) = false := by simp; omega
  have TK := fun W => (take_long ⟨(tx.view base 1).toArray⟩ (tx.view base 1) rfl hl W).mono fun e w' (x : e = .returned (takeRes (takeH (tx.view base 1))) ∧ Below W.heap.size W w') => (by rw [ht] at x; exact x : e = .returned (takeRes (some hd)) ∧ Below W.heap.size W w')
  have HT := Lib.hid TK
  have H := Lib.hid h
  obtain ⟨fr, co, cm, r0, r1, r2, r3, r4, r5, r6, r7⟩ := hd
  have hp' := Lib.hid hp
  clear TK h ht hl hp
  go_enter Tryz.func51, Tryz.ntmps51
  go_wp2_with (first | (go_at_call 38; refine (pages_in (H.out.below ((Below.refl _ _).alloc (Nat.le_refl _) _))).mono ?_; rintro e w1 ⟨rfl, rfl⟩) | (go_at_call 42; refine (read_in (H.out.below ((Below.refl _ _).alloc (Nat.le_refl _) _)) 1 (by omega) hp'.out).mono ?_; rintro e w2 ⟨rfl, hb2⟩))
  have Z2 := Below.get hb2 (heap_alloc_new w (.cells zArr 110))
  have HB2 := Lib.hid (((Below.refl w.heap.size w).alloc (Nat.le_refl _) _).trans (hb2.mono (by simp)))
  have HZ2 := Lib.hid Z2
  clear hb2 Z2
  refine (HT.out _).mono ?_
  rintro e w3 ⟨rfl, hb3⟩
  have HZ3 := Lib.hid (Below.get hb3 HZ2.out)
  have HB3 := Lib.hid (belowThen HB2.out hb3)
  clear hb3 HZ2 HB2
  have p0 : w3.cell? ⟨w.heap.size, 0, none⟩ = some (.int .i64 0) := cellAt HZ3.out 0
  have pf0 : w3.frozen? ⟨w.heap.size, 0, none⟩ = false := freeAt HZ3.out 0
  have p1 : w3.cell? ⟨w.heap.size, 1, none⟩ = some (.int .i64 0) := cellAt HZ3.out 1
  have pf1 : w3.frozen? ⟨w.heap.size, 1, none⟩ = false := freeAt HZ3.out 1
  have p2 : w3.cell? ⟨w.heap.size, 2, none⟩ = some (.int .u64 0) := cellAt HZ3.out 2
  have pf2 : w3.frozen? ⟨w.heap.size, 2, none⟩ = false := freeAt HZ3.out 2
  have p3 : w3.cell? ⟨w.heap.size, 3, none⟩ = some (.int .i64 0) := cellAt HZ3.out 3
  have pf3 : w3.frozen? ⟨w.heap.size, 3, none⟩ = false := freeAt HZ3.out 3
  have p4 : w3.cell? ⟨w.heap.size, 4, none⟩ = some (.int .i64 0) := cellAt HZ3.out 4
  have pf4 : w3.frozen? ⟨w.heap.size, 4, none⟩ = false := freeAt HZ3.out 4
  have p5 : w3.cell? ⟨w.heap.size, 5, none⟩ = some (.int .i64 0) := cellAt HZ3.out 5
  have pf5 : w3.frozen? ⟨w.heap.size, 5, none⟩ = false := freeAt HZ3.out 5
  have p6 : w3.cell? ⟨w.heap.size, 6, none⟩ = some (.int .i64 0) := cellAt HZ3.out 6
  have pf6 : w3.frozen? ⟨w.heap.size, 6, none⟩ = false := freeAt HZ3.out 6
  have p7 : w3.cell? ⟨w.heap.size, 7, none⟩ = some (.int .i64 0) := cellAt HZ3.out 7
  have pf7 : w3.frozen? ⟨w.heap.size, 7, none⟩ = false := freeAt HZ3.out 7
  have p8 : w3.cell? ⟨w.heap.size, 8, none⟩ = some (.int .i64 0) := cellAt HZ3.out 8
  have pf8 : w3.frozen? ⟨w.heap.size, 8, none⟩ = false := freeAt HZ3.out 8
  have p9 : w3.cell? ⟨w.heap.size, 9, none⟩ = some (.int .i64 0) := cellAt HZ3.out 9
  have pf9 : w3.frozen? ⟨w.heap.size, 9, none⟩ = false := freeAt HZ3.out 9
  have p10 : w3.cell? ⟨w.heap.size, 10, none⟩ = some (.int .i64 0) := cellAt HZ3.out 10
  have pf10 : w3.frozen? ⟨w.heap.size, 10, none⟩ = false := freeAt HZ3.out 10
  unfold takeRes
  go_wp2
  have hW := set11 (.int .i64 fr) (.int .i64 co) (.int .u64 cm) (.int .i64 r0) (.int .i64 r1) (.int .i64 r2) (.int .i64 r3) (.int .i64 r4) (.int .i64 r5) (.int .i64 r6) (.int .i64 r7) HZ3.out
  have hB := below11 (.int .i64 fr) (.int .i64 co) (.int .u64 cm) (.int .i64 r0) (.int .i64 r1) (.int .i64 r2) (.int .i64 r3) (.int .i64 r4) (.int .i64 r5) (.int .i64 r6) (.int .i64 r7) HB3.out (Nat.le_refl _)
  clear p0 pf0 p1 pf1 p2 pf2 p3 pf3 p4 pf4 p5 pf5 p6 pf6 p7 pf7 p8 pf8 p9 pf9 p10 pf10
  generalize (((((((((((w3.setCell ⟨w.heap.size, 0, none⟩ (.int .i64 fr)).setCell ⟨w.heap.size, 1, none⟩ (.int .i64 co)).setCell ⟨w.heap.size, 2, none⟩ (.int .u64 cm)).setCell ⟨w.heap.size, 3, none⟩ (.int .i64 r0)).setCell ⟨w.heap.size, 4, none⟩ (.int .i64 r1)).setCell ⟨w.heap.size, 5, none⟩ (.int .i64 r2)).setCell ⟨w.heap.size, 6, none⟩ (.int .i64 r3)).setCell ⟨w.heap.size, 7, none⟩ (.int .i64 r4)).setCell ⟨w.heap.size, 8, none⟩ (.int .i64 r5)).setCell ⟨w.heap.size, 9, none⟩ (.int .i64 r6)).setCell ⟨w.heap.size, 10, none⟩ (.int .i64 r7)) = W at *
  have rr0 : W.cell? ⟨w.heap.size, 0, none⟩ = some (.int .i64 fr) := cellAt hW 0
  have rr1 : W.cell? ⟨w.heap.size, 1, none⟩ = some (.int .i64 co) := cellAt hW 1
  have rr2 : W.cell? ⟨w.heap.size, 2, none⟩ = some (.int .u64 cm) := cellAt hW 2
  have rr3 : W.cell? ⟨w.heap.size, 3, none⟩ = some (.int .i64 r0) := cellAt hW 3
  have rr4 : W.cell? ⟨w.heap.size, 4, none⟩ = some (.int .i64 r1) := cellAt hW 4
  have rr5 : W.cell? ⟨w.heap.size, 5, none⟩ = some (.int .i64 r2) := cellAt hW 5
  have rr6 : W.cell? ⟨w.heap.size, 6, none⟩ = some (.int .i64 r3) := cellAt hW 6
  have rr7 : W.cell? ⟨w.heap.size, 7, none⟩ = some (.int .i64 r4) := cellAt hW 7
  have rr8 : W.cell? ⟨w.heap.size, 8, none⟩ = some (.int .i64 r5) := cellAt hW 8
  have rr9 : W.cell? ⟨w.heap.size, 9, none⟩ = some (.int .i64 r6) := cellAt hW 9
  have rr10 : W.cell? ⟨w.heap.size, 10, none⟩ = some (.int .i64 r7) := cellAt hW 10
  exact bodyPost_ret (v := .tuple #[.agg #[.int .i64 fr, .int .i64 co, .int .u64 cm, .int .i64 r0, .int .i64 r1, .int .i64 r2, .int .i64 r3, .int .i64 r4, .int .i64 r5, .int .i64 r6, .int .i64 r7], .int .i64 0]) (by simp [results, Tryz.results51, go_sem, rr0, rr1, rr2, rr3, rr4, rr5, rr6, rr7, rr8, rr9, rr10]; try rfl) rfl ⟨rfl, hB⟩

end Go.Proofs.YtobmnnihmbdfjaaGreat
