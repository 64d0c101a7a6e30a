/- space.Take: a page as a header. -/
import Derived.Test.YtobmnnihmbdfjaaGreatSpace
set_option linter.all false
namespace Go.Proofs.YtobmnnihmbdfjaaGreat
open Go.RowKit

theorem extract_list (s : ByteArray) (a b : Nat) : (s.extract a b).data.toList = (s.data.toList.drop a).take (b - a) := by
  simp [ByteArray.data_extract, Array.toList_extract, List.extract_eq_take_drop]

theorem drop_all (s : ByteArray) (a : Nat) : (s.extract a s.size).data.toList = s.data.toList.drop a := by
  rw [extract_list, List.take_of_length_le]
  show (s.data.toList.drop a).length ≤ s.data.size - a
  simp

set_option maxRecDepth 100000 in
set_option maxHeartbeats 1000000 in
/-- The closure: four bytes are taken off what is left. -/
theorem take1_any (b : Nat) (x : ByteArray) (w : World) (hb : w.heap[b]? = some (.cells #[.string x] 9)) (h4 : 4 ≤ x.size) (hm : x.size ≤ 100000) :
    Calls Tryz.prog 177 #[ptr b] w fun e w' => e = .returned (.int .i64 (takeFour x.data.toList)) ∧ (∃ y : ByteArray, y.data.toList = x.data.toList.drop 4 ∧ w'.heap[b]? = some (.cells #[.string y] 9)) ∧ Chg [b] w w' ∧ w'.heap.size = w.heap.size := by
  have c0 : w.cell? ⟨b, 0, none⟩ = some (.string x) := cellAt hb 0
  have f0 : w.frozen? ⟨b, 0, none⟩ = false := freeAt hb 0
  have bd := takeFour_bd x.data.toList
  have bd0 := bd.1
  have bd1 := bd.2
  have hm2 : x.size ≤ maxLen := by unfold maxLen; omega
  have HM := Lib.hid hm2
  have HB := Lib.hid hb
  clear hb bd hm2
  go_enter Tryz.func177, Tryz.ntmps177
  go_wp2_with (go_at_call 178; refine (takeFour_any _ _ HM.out h4).mono ?_; rintro e w' ⟨rfl, nq, rfl⟩)
  go_ret
  have hs := setAt (w := w.drewN nq) HB.out 0 (.string (x.extract 4 x.size))
  exact ⟨rfl, ⟨_, drop_all x 4, hs⟩, ((Chg.refl _ _).drewN _).setCell (by simp) _, by simp [World.setCell, World.drewN]⟩

theorem take1_at (b k : Nat) (x : ByteArray) (l : List UInt8) (hx : x.data.toList = l.drop k) (h4 : k + 4 ≤ l.length) (hm : l.length ≤ 100000) (w : World) (hb : w.heap[b]? = some (.cells #[.string x] 9)) :
    Calls Tryz.prog 177 #[ptr b] w fun e w' => e = .returned (.int .i64 (takeFour (l.drop k))) ∧ ∃ y : ByteArray, y.data.toList = l.drop (k + 4) ∧ w'.heap[b]? = some (.cells #[.string y] 9) ∧ Chg [b] w w' ∧ w'.heap.size = w.heap.size := by
  have hs : x.size = l.length - k := by
    have : x.data.toList.length = l.length - k := by rw [hx, List.length_drop]
    exact this
  refine (take1_any b x w hb (by omega) (by omega)).mono ?_
  rintro e w' ⟨rfl, ⟨y, hy, hb'⟩, hc, hs'⟩
  rw [hx] at *
  exact ⟨rfl, y, by rw [hy, List.drop_drop], hb', hc, hs'⟩

theorem takeEight_at (k : Nat) (x : ByteArray) (l : List UInt8) (hx : x.data.toList = l.drop k) (h4 : k + 8 ≤ l.length) (hm : l.length ≤ 100000) (w : World) :
    Calls Tryz.prog 179 #[.string x] w fun e w' => e = .returned (.tuple #[.int .u64 (takeEight (l.drop k)), .int .i64 0]) ∧ Chg [] w w' ∧ w'.heap = w.heap := by
  have hs : x.size = l.length - k := by
    have : x.data.toList.length = l.length - k := by rw [hx, List.length_drop]
    exact this
  refine (takeEight_any x w (by unfold maxLen; omega) (by omega)).mono ?_
  rintro e w' ⟨rfl, nq, rfl⟩
  exact ⟨by rw [hx], (Chg.refl _ _).drewN _, rfl⟩

theorem set11 {w : World} {b : Nat} {t : TypeId} {fr : Nat × Nat} {o0 o1 o2 o3 o4 o5 o6 o7 o8 o9 o10 : Value} (x0 x1 x2 x3 x4 x5 x6 x7 x8 x9 x10 : Value) (h : w.heap[b]? = some (.cells #[o0, o1, o2, o3, o4, o5, o6, o7, o8, o9, o10] t fr)) :
    (((((((((((w.setCell ⟨b, 0, none⟩ x0).setCell ⟨b, 1, none⟩ x1).setCell ⟨b, 2, none⟩ x2).setCell ⟨b, 3, none⟩ x3).setCell ⟨b, 4, none⟩ x4).setCell ⟨b, 5, none⟩ x5).setCell ⟨b, 6, none⟩ x6).setCell ⟨b, 7, none⟩ x7).setCell ⟨b, 8, none⟩ x8).setCell ⟨b, 9, none⟩ x9).setCell ⟨b, 10, none⟩ x10).heap[b]? = some (.cells #[x0, x1, x2, x3, x4, x5, x6, x7, x8, x9, x10] t fr) := by
  have := (setAt (setAt (setAt (setAt (setAt (setAt (setAt (setAt (setAt (setAt (setAt h 0 x0) 1 x1) 2 x2) 3 x3) 4 x4) 5 x5) 6 x6) 7 x7) 8 x8) 9 x9) 10 x10)
  simpa using this
theorem below11 {w a : World} {b B : Nat} (x0 x1 x2 x3 x4 x5 x6 x7 x8 x9 x10 : Value) (h : Below B a w) (hb : B ≤ b) : Below B a (((((((((((w.setCell ⟨b, 0, none⟩ x0).setCell ⟨b, 1, none⟩ x1).setCell ⟨b, 2, none⟩ x2).setCell ⟨b, 3, none⟩ x3).setCell ⟨b, 4, none⟩ x4).setCell ⟨b, 5, none⟩ x5).setCell ⟨b, 6, none⟩ x6).setCell ⟨b, 7, none⟩ x7).setCell ⟨b, 8, none⟩ x8).setCell ⟨b, 9, none⟩ x9).setCell ⟨b, 10, none⟩ x10) :=
  (((((((((((h.setCell hb _).setCell hb _).setCell hb _).setCell hb _).setCell hb _).setCell hb _).setCell hb _).setCell hb _).setCell hb _).setCell hb _).setCell hb _)

/-- What is answered. -/
def takeRes (o : Option Hdr) : Value := match o with | some h => .tuple #[hdrV h, .int .i64 0] | none => .tuple #[hdrV hdr0, .int .i64 7]

def hArr (a b c d0 d1 d2 d3 d4 d5 d6 d7 : Int) : Array Value := #[.int .i64 a, .int .i64 b, .int .u64 c, .int .i64 d0, .int .i64 d1, .int .i64 d2, .int .i64 d3, .int .i64 d4, .int .i64 d5, .int .i64 d6, .int .i64 d7]

set_option maxRecDepth 100000 in
set_option maxHeartbeats 6000000 in
/-- A page is taken apart, put together again, and compared. -/
theorem take_long (s : ByteArray) (l : List UInt8) (hsl : s.data.toList = l) (h : l.length = 512) (w : World) :
    Calls Tryz.prog 120 #[.string s] w fun e w' => e = .returned (takeRes (takeH l)) ∧ Below w.heap.size w w' := by
  have hsz : s.size = 512 := by rw [← h, ← hsl]; rfl
  have g0 : (8 : Int) ≤ (s.size : Int) := by omega
  have hmf : ∀ (fn : Fn) (first cap : Array Value) (w : World), (Instr.makeFunc fn first cap).run Tryz.prog w = .ok (.func fn first cap) w := fun _ _ _ _ => rfl
  have h' : ((s.size : Int) != 512) = false := by simp [hsz]
  have SL := Lib.hid hsl
  have LEN := Lib.hid h
  have y0s : (s.extract 8 s.size).data.toList = l.drop 8 := by rw [drop_all, SL.out]
  have Y0 := Lib.hid y0s
  have SZ := Lib.hid hsz
  clear h hsl y0s hsz
  go_enter Tryz.func120, Tryz.ntmps120
  go_wp2_with fail
  generalize s.extract 8 s.size = y0 at *
  refine (take1_at (w.heap.size + 1) 8 y0 l Y0.out (by rw [LEN.out]; omega) (by rw [LEN.out]; omega) _ (by exact heapNew (by simp) _)).mono ?_
  rintro e w1 ⟨rfl, y1, hy1, hb1, hc1, hs1⟩
  have Y1 := Lib.hid hy1
  have B1 := Lib.hid hb1
  have C1 : Hid (Chg [] (w.alloc (.cells (hArr 0 0 0 0 0 0 0 0 0 0 0) 110)) w1) := ((Chg.refl [] (w.alloc (.cells (hArr 0 0 0 0 0 0 0 0 0 0 0) 110))).alloc _).after hc1 (by simp)
  clear hy1 hb1 hc1 hs1
  go_wp2_with fail
  refine (take1_at (w.heap.size + 1) 12 y1 l Y1.out (by rw [LEN.out]; omega) (by rw [LEN.out]; omega) _ B1.out).mono ?_
  rintro e w2 ⟨rfl, y2, hy2, hb2, hc2, hs2⟩
  have Y2 := Lib.hid hy2
  have B2 := Lib.hid hb2
  have C2 : Hid (Chg [] (w.alloc (.cells (hArr 0 0 0 0 0 0 0 0 0 0 0) 110)) w2) := C1.out.after hc2 (by simp)
  clear hy2 hb2 hc2 hs2
  have a2 : w2.cell? ⟨w.heap.size + 1, 0, none⟩ = some (.string y2) := cellAt B2.out 0
  have n0 : w.heap.size + 1 < w2.heap.size := lt_of_block B2.out
  go_wp2_with fail
  obtain ⟨H, hH⟩ : ∃ H, H = w2.heap.size := ⟨_, rfl⟩
  rw [← hH] at n0
  have HH := Lib.hid hH
  have n1 : w.heap.size + 1 ≠ H := by omega
  refine (takeEight_at 16 y2 l Y2.out (by rw [LEN.out]; omega) (by rw [LEN.out]; omega) _).mono ?_
  rintro e w3 ⟨rfl, hc3, hh3⟩
  have B3 : Hid (w3.heap[w.heap.size + 1]? = some (.cells #[.string y2] 9)) := by rw [hh3]; exact heapOld B2.out _
  have K3 : Hid (w3.heap[w2.heap.size]? = some (.cells (hArr (takeFour (l.drop 8)) (takeFour (l.drop 12)) 0 0 0 0 0 0 0 0 0) 110)) := by rw [hh3]; exact heap_alloc_new _ _
  have C3 : Hid (Chg [] (w.alloc (.cells (hArr 0 0 0 0 0 0 0 0 0 0 0) 110)) w3) := (C2.out.alloc _).after hc3 (by simp)
  clear hc3 hh3
  have a3 : w3.cell? ⟨w.heap.size + 1, 0, none⟩ = some (.string y2) := cellAt B3.out 0
  have b3 : w3.frozen? ⟨w.heap.size + 1, 0, none⟩ = false := freeAt B3.out 0
  have a4 : w3.cell? ⟨w2.heap.size, 2, none⟩ = some (.int .u64 0) := cellAt K3.out 2
  have b4 : w3.frozen? ⟨w2.heap.size, 2, none⟩ = false := freeAt K3.out 2
  have g8 : (8 : Int) ≤ (y2.size : Int) := by
    have : y2.data.toList.length = 512 - 16 := by rw [Y2.out, List.length_drop, LEN.out]
    have : y2.size = 512 - 16 := this
    omega
  have n2 : w2.heap.size ≠ w.heap.size + 1 := by rw [← HH.out]; omega
  go_wp2_with fail
  have gl := drop_all y2 8
  have Y3 : Hid ((y2.extract 8 y2.size).data.toList = l.drop 24) := by rw [gl, Y2.out, List.drop_drop]; exact rfl
  clear gl
  have B3' : (w3.setCell ⟨w2.heap.size, 2, none⟩ (.int .u64 (takeEight (l.drop 16)))).heap[w.heap.size + 1]? = some (.cells #[.string y2] 9) := (setOff _ _ n2.symm).trans B3.out
  have X3 : Hid (((w3.setCell ⟨w2.heap.size, 2, none⟩ (.int .u64 (takeEight (l.drop 16)))).setCell ⟨w.heap.size + 1, 0, none⟩ (.string (y2.extract 8 y2.size))).heap[w.heap.size + 1]? = some (.cells #[.string (y2.extract 8 y2.size)] 9)) := setAt B3' 0 _
  clear B3'
  have K4 : Hid (((w3.setCell ⟨w2.heap.size, 2, none⟩ (.int .u64 (takeEight (l.drop 16)))).setCell ⟨w.heap.size + 1, 0, none⟩ (.string (y2.extract 8 y2.size))).heap[w2.heap.size]? = some (.cells (hArr (takeFour (l.drop 8)) (takeFour (l.drop 12)) (takeEight (l.drop 16)) 0 0 0 0 0 0 0 0) 110)) := (setOff _ _ n2).trans (setAt K3.out 2 _)
  have C4 : Hid (Chg [] (w.alloc (.cells (hArr 0 0 0 0 0 0 0 0 0 0 0) 110)) ((w3.setCell ⟨w2.heap.size, 2, none⟩ (.int .u64 (takeEight (l.drop 16)))).setCell ⟨w.heap.size + 1, 0, none⟩ (.string (y2.extract 8 y2.size)))) := by
    refine (C3.out.setCell (.inr ?_) _).setCell (.inr (by simp)) _
    show (w.alloc _).heap.size ≤ w2.heap.size
    rw [← HH.out]; simp; omega
  clear a2 a3 b3 a4 b4 g8 g0
  generalize hq : y2.extract 8 y2.size = q0 at *
  generalize hwq : ((w3.setCell ⟨w2.heap.size, 2, none⟩ (.int .u64 (takeEight (l.drop 16)))).setCell ⟨w.heap.size + 1, 0, none⟩ (.string q0)) = v0 at *
  clear hq hwq
  refine wp_loop_rounds 9 ?_
  rw [rounds_succ]
  go_wp2_with fail
  refine (take1_at (w.heap.size + 1) 24 q0 l Y3.out (by rw [LEN.out]; omega) (by rw [LEN.out]; omega) _ X3.out).mono ?_
  rintro e u0 ⟨rfl, q1, hy, hb, hc, hs⟩
  have Y4 := Lib.hid hy
  have J0 : Hid (u0.heap[w2.heap.size]? = some (.cells (hArr (takeFour (l.drop 8)) (takeFour (l.drop 12)) (takeEight (l.drop 16)) 0 0 0 0 0 0 0 0) 110)) := hc.get K4.out (by simpa using n2)
  have X4 : Hid ((u0.setCell ⟨w2.heap.size, 3, none⟩ (.int .i64 (takeFour (l.drop 24)))).heap[w.heap.size + 1]? = some (.cells #[.string q1] 9)) := by
    rw [Hid, setOff _ _ n2.symm]; exact hb
  have K5 : Hid ((u0.setCell ⟨w2.heap.size, 3, none⟩ (.int .i64 (takeFour (l.drop 24)))).heap[w2.heap.size]? = some (.cells (hArr (takeFour (l.drop 8)) (takeFour (l.drop 12)) (takeEight (l.drop 16)) (takeFour (l.drop 24)) 0 0 0 0 0 0 0) 110)) := setAt J0.out 3 _
  have C5 : Hid (Chg [] (w.alloc (.cells (hArr 0 0 0 0 0 0 0 0 0 0 0) 110)) (u0.setCell ⟨w2.heap.size, 3, none⟩ (.int .i64 (takeFour (l.drop 24))))) := (C4.out.after hc (by simp)).setCell (.inr (by show (w.alloc _).heap.size ≤ w2.heap.size; rw [← HH.out]; simp; omega)) _
  have z0 : u0.cell? ⟨w2.heap.size, 3, none⟩ = some (.int .i64 0) := cellAt J0.out 3
  have fz0 : u0.frozen? ⟨w2.heap.size, 3, none⟩ = false := freeAt J0.out 3
  clear hy hb hc hs
  go_wp2_with fail
  rw [rounds_succ]
  go_wp2_with fail
  refine (take1_at (w.heap.size + 1) 28 q1 l Y4.out (by rw [LEN.out]; omega) (by rw [LEN.out]; omega) _ X4.out).mono ?_
  rintro e u1 ⟨rfl, q2, hy, hb, hc, hs⟩
  have Y5 := Lib.hid hy
  have J1 : Hid (u1.heap[w2.heap.size]? = some (.cells (hArr (takeFour (l.drop 8)) (takeFour (l.drop 12)) (takeEight (l.drop 16)) (takeFour (l.drop 24)) 0 0 0 0 0 0 0) 110)) := hc.get K5.out (by simpa using n2)
  have X5 : Hid ((u1.setCell ⟨w2.heap.size, 4, none⟩ (.int .i64 (takeFour (l.drop 28)))).heap[w.heap.size + 1]? = some (.cells #[.string q2] 9)) := by
    rw [Hid, setOff _ _ n2.symm]; exact hb
  have K6 : Hid ((u1.setCell ⟨w2.heap.size, 4, none⟩ (.int .i64 (takeFour (l.drop 28)))).heap[w2.heap.size]? = some (.cells (hArr (takeFour (l.drop 8)) (takeFour (l.drop 12)) (takeEight (l.drop 16)) (takeFour (l.drop 24)) (takeFour (l.drop 28)) 0 0 0 0 0 0) 110)) := setAt J1.out 4 _
  have C6 : Hid (Chg [] (w.alloc (.cells (hArr 0 0 0 0 0 0 0 0 0 0 0) 110)) (u1.setCell ⟨w2.heap.size, 4, none⟩ (.int .i64 (takeFour (l.drop 28))))) := (C5.out.after hc (by simp)).setCell (.inr (by show (w.alloc _).heap.size ≤ w2.heap.size; rw [← HH.out]; simp; omega)) _
  have z1 : u1.cell? ⟨w2.heap.size, 4, none⟩ = some (.int .i64 0) := cellAt J1.out 4
  have fz1 : u1.frozen? ⟨w2.heap.size, 4, none⟩ = false := freeAt J1.out 4
  clear hy hb hc hs
  go_wp2_with fail
  rw [rounds_succ]
  go_wp2_with fail
  refine (take1_at (w.heap.size + 1) 32 q2 l Y5.out (by rw [LEN.out]; omega) (by rw [LEN.out]; omega) _ X5.out).mono ?_
  rintro e u2 ⟨rfl, q3, hy, hb, hc, hs⟩
  have Y6 := Lib.hid hy
  have J2 : Hid (u2.heap[w2.heap.size]? = some (.cells (hArr (takeFour (l.drop 8)) (takeFour (l.drop 12)) (takeEight (l.drop 16)) (takeFour (l.drop 24)) (takeFour (l.drop 28)) 0 0 0 0 0 0) 110)) := hc.get K6.out (by simpa using n2)
  have X6 : Hid ((u2.setCell ⟨w2.heap.size, 5, none⟩ (.int .i64 (takeFour (l.drop 32)))).heap[w.heap.size + 1]? = some (.cells #[.string q3] 9)) := by
    rw [Hid, setOff _ _ n2.symm]; exact hb
  have K7 : Hid ((u2.setCell ⟨w2.heap.size, 5, none⟩ (.int .i64 (takeFour (l.drop 32)))).heap[w2.heap.size]? = some (.cells (hArr (takeFour (l.drop 8)) (takeFour (l.drop 12)) (takeEight (l.drop 16)) (takeFour (l.drop 24)) (takeFour (l.drop 28)) (takeFour (l.drop 32)) 0 0 0 0 0) 110)) := setAt J2.out 5 _
  have C7 : Hid (Chg [] (w.alloc (.cells (hArr 0 0 0 0 0 0 0 0 0 0 0) 110)) (u2.setCell ⟨w2.heap.size, 5, none⟩ (.int .i64 (takeFour (l.drop 32))))) := (C6.out.after hc (by simp)).setCell (.inr (by show (w.alloc _).heap.size ≤ w2.heap.size; rw [← HH.out]; simp; omega)) _
  have z2 : u2.cell? ⟨w2.heap.size, 5, none⟩ = some (.int .i64 0) := cellAt J2.out 5
  have fz2 : u2.frozen? ⟨w2.heap.size, 5, none⟩ = false := freeAt J2.out 5
  clear hy hb hc hs
  go_wp2_with fail
  rw [rounds_succ]
  go_wp2_with fail
  refine (take1_at (w.heap.size + 1) 36 q3 l Y6.out (by rw [LEN.out]; omega) (by rw [LEN.out]; omega) _ X6.out).mono ?_
  rintro e u3 ⟨rfl, q4, hy, hb, hc, hs⟩
  have Y7 := Lib.hid hy
  have J3 : Hid (u3.heap[w2.heap.size]? = some (.cells (hArr (takeFour (l.drop 8)) (takeFour (l.drop 12)) (takeEight (l.drop 16)) (takeFour (l.drop 24)) (takeFour (l.drop 28)) (takeFour (l.drop 32)) 0 0 0 0 0) 110)) := hc.get K7.out (by simpa using n2)
  have X7 : Hid ((u3.setCell ⟨w2.heap.size, 6, none⟩ (.int .i64 (takeFour (l.drop 36)))).heap[w.heap.size + 1]? = some (.cells #[.string q4] 9)) := by
    rw [Hid, setOff _ _ n2.symm]; exact hb
  have K8 : Hid ((u3.setCell ⟨w2.heap.size, 6, none⟩ (.int .i64 (takeFour (l.drop 36)))).heap[w2.heap.size]? = some (.cells (hArr (takeFour (l.drop 8)) (takeFour (l.drop 12)) (takeEight (l.drop 16)) (takeFour (l.drop 24)) (takeFour (l.drop 28)) (takeFour (l.drop 32)) (takeFour (l.drop 36)) 0 0 0 0) 110)) := setAt J3.out 6 _
  have C8 : Hid (Chg [] (w.alloc (.cells (hArr 0 0 0 0 0 0 0 0 0 0 0) 110)) (u3.setCell ⟨w2.heap.size, 6, none⟩ (.int .i64 (takeFour (l.drop 36))))) := (C7.out.after hc (by simp)).setCell (.inr (by show (w.alloc _).heap.size ≤ w2.heap.size; rw [← HH.out]; simp; omega)) _
  have z3 : u3.cell? ⟨w2.heap.size, 6, none⟩ = some (.int .i64 0) := cellAt J3.out 6
  have fz3 : u3.frozen? ⟨w2.heap.size, 6, none⟩ = false := freeAt J3.out 6
  clear hy hb hc hs
  go_wp2_with fail
  rw [rounds_succ]
  go_wp2_with fail
  refine (take1_at (w.heap.size + 1) 40 q4 l Y7.out (by rw [LEN.out]; omega) (by rw [LEN.out]; omega) _ X7.out).mono ?_
  rintro e u4 ⟨rfl, q5, hy, hb, hc, hs⟩
  have Y8 := Lib.hid hy
  have J4 : Hid (u4.heap[w2.heap.size]? = some (.cells (hArr (takeFour (l.drop 8)) (takeFour (l.drop 12)) (takeEight (l.drop 16)) (takeFour (l.drop 24)) (takeFour (l.drop 28)) (takeFour (l.drop 32)) (takeFour (l.drop 36)) 0 0 0 0) 110)) := hc.get K8.out (by simpa using n2)
  have X8 : Hid ((u4.setCell ⟨w2.heap.size, 7, none⟩ (.int .i64 (takeFour (l.drop 40)))).heap[w.heap.size + 1]? = some (.cells #[.string q5] 9)) := by
    rw [Hid, setOff _ _ n2.symm]; exact hb
  have K9 : Hid ((u4.setCell ⟨w2.heap.size, 7, none⟩ (.int .i64 (takeFour (l.drop 40)))).heap[w2.heap.size]? = some (.cells (hArr (takeFour (l.drop 8)) (takeFour (l.drop 12)) (takeEight (l.drop 16)) (takeFour (l.drop 24)) (takeFour (l.drop 28)) (takeFour (l.drop 32)) (takeFour (l.drop 36)) (takeFour (l.drop 40)) 0 0 0) 110)) := setAt J4.out 7 _
  have C9 : Hid (Chg [] (w.alloc (.cells (hArr 0 0 0 0 0 0 0 0 0 0 0) 110)) (u4.setCell ⟨w2.heap.size, 7, none⟩ (.int .i64 (takeFour (l.drop 40))))) := (C8.out.after hc (by simp)).setCell (.inr (by show (w.alloc _).heap.size ≤ w2.heap.size; rw [← HH.out]; simp; omega)) _
  have z4 : u4.cell? ⟨w2.heap.size, 7, none⟩ = some (.int .i64 0) := cellAt J4.out 7
  have fz4 : u4.frozen? ⟨w2.heap.size, 7, none⟩ = false := freeAt J4.out 7
  clear hy hb hc hs
  go_wp2_with fail
  rw [rounds_succ]
  go_wp2_with fail
  refine (take1_at (w.heap.size + 1) 44 q5 l Y8.out (by rw [LEN.out]; omega) (by rw [LEN.out]; omega) _ X8.out).mono ?_
  rintro e u5 ⟨rfl, q6, hy, hb, hc, hs⟩
  have Y9 := Lib.hid hy
  have J5 : Hid (u5.heap[w2.heap.size]? = some (.cells (hArr (takeFour (l.drop 8)) (takeFour (l.drop 12)) (takeEight (l.drop 16)) (takeFour (l.drop 24)) (takeFour (l.drop 28)) (takeFour (l.drop 32)) (takeFour (l.drop 36)) (takeFour (l.drop 40)) 0 0 0) 110)) := hc.get K9.out (by simpa using n2)
  have X9 : Hid ((u5.setCell ⟨w2.heap.size, 8, none⟩ (.int .i64 (takeFour (l.drop 44)))).heap[w.heap.size + 1]? = some (.cells #[.string q6] 9)) := by
    rw [Hid, setOff _ _ n2.symm]; exact hb
  have K10 : Hid ((u5.setCell ⟨w2.heap.size, 8, none⟩ (.int .i64 (takeFour (l.drop 44)))).heap[w2.heap.size]? = some (.cells (hArr (takeFour (l.drop 8)) (takeFour (l.drop 12)) (takeEight (l.drop 16)) (takeFour (l.drop 24)) (takeFour (l.drop 28)) (takeFour (l.drop 32)) (takeFour (l.drop 36)) (takeFour (l.drop 40)) (takeFour (l.drop 44)) 0 0) 110)) := setAt J5.out 8 _
  have C10 : Hid (Chg [] (w.alloc (.cells (hArr 0 0 0 0 0 0 0 0 0 0 0) 110)) (u5.setCell ⟨w2.heap.size, 8, none⟩ (.int .i64 (takeFour (l.drop 44))))) := (C9.out.after hc (by simp)).setCell (.inr (by show (w.alloc _).heap.size ≤ w2.heap.size; rw [← HH.out]; simp; omega)) _
  have z5 : u5.cell? ⟨w2.heap.size, 8, none⟩ = some (.int .i64 0) := cellAt J5.out 8
  have fz5 : u5.frozen? ⟨w2.heap.size, 8, none⟩ = false := freeAt J5.out 8
  clear hy hb hc hs
  go_wp2_with fail
  rw [rounds_succ]
  go_wp2_with fail
  refine (take1_at (w.heap.size + 1) 48 q6 l Y9.out (by rw [LEN.out]; omega) (by rw [LEN.out]; omega) _ X9.out).mono ?_
  rintro e u6 ⟨rfl, q7, hy, hb, hc, hs⟩
  have Y10 := Lib.hid hy
  have J6 : Hid (u6.heap[w2.heap.size]? = some (.cells (hArr (takeFour (l.drop 8)) (takeFour (l.drop 12)) (takeEight (l.drop 16)) (takeFour (l.drop 24)) (takeFour (l.drop 28)) (takeFour (l.drop 32)) (takeFour (l.drop 36)) (takeFour (l.drop 40)) (takeFour (l.drop 44)) 0 0) 110)) := hc.get K10.out (by simpa using n2)
  have X10 : Hid ((u6.setCell ⟨w2.heap.size, 9, none⟩ (.int .i64 (takeFour (l.drop 48)))).heap[w.heap.size + 1]? = some (.cells #[.string q7] 9)) := by
    rw [Hid, setOff _ _ n2.symm]; exact hb
  have K11 : Hid ((u6.setCell ⟨w2.heap.size, 9, none⟩ (.int .i64 (takeFour (l.drop 48)))).heap[w2.heap.size]? = some (.cells (hArr (takeFour (l.drop 8)) (takeFour (l.drop 12)) (takeEight (l.drop 16)) (takeFour (l.drop 24)) (takeFour (l.drop 28)) (takeFour (l.drop 32)) (takeFour (l.drop 36)) (takeFour (l.drop 40)) (takeFour (l.drop 44)) (takeFour (l.drop 48)) 0) 110)) := setAt J6.out 9 _
  have C11 : Hid (Chg [] (w.alloc (.cells (hArr 0 0 0 0 0 0 0 0 0 0 0) 110)) (u6.setCell ⟨w2.heap.size, 9, none⟩ (.int .i64 (takeFour (l.drop 48))))) := (C10.out.after hc (by simp)).setCell (.inr (by show (w.alloc _).heap.size ≤ w2.heap.size; rw [← HH.out]; simp; omega)) _
  have z6 : u6.cell? ⟨w2.heap.size, 9, none⟩ = some (.int .i64 0) := cellAt J6.out 9
  have fz6 : u6.frozen? ⟨w2.heap.size, 9, none⟩ = false := freeAt J6.out 9
  clear hy hb hc hs
  go_wp2_with fail
  rw [rounds_succ]
  go_wp2_with fail
  refine (take1_at (w.heap.size + 1) 52 q7 l Y10.out (by rw [LEN.out]; omega) (by rw [LEN.out]; omega) _ X10.out).mono ?_
  rintro e u7 ⟨rfl, q8, hy, hb, hc, hs⟩
  have Y11 := Lib.hid hy
  have J7 : Hid (u7.heap[w2.heap.size]? = some (.cells (hArr (takeFour (l.drop 8)) (takeFour (l.drop 12)) (takeEight (l.drop 16)) (takeFour (l.drop 24)) (takeFour (l.drop 28)) (takeFour (l.drop 32)) (takeFour (l.drop 36)) (takeFour (l.drop 40)) (takeFour (l.drop 44)) (takeFour (l.drop 48)) 0) 110)) := hc.get K11.out (by simpa using n2)
  have X11 : Hid ((u7.setCell ⟨w2.heap.size, 10, none⟩ (.int .i64 (takeFour (l.drop 52)))).heap[w.heap.size + 1]? = some (.cells #[.string q8] 9)) := by
    rw [Hid, setOff _ _ n2.symm]; exact hb
  have K12 : Hid ((u7.setCell ⟨w2.heap.size, 10, none⟩ (.int .i64 (takeFour (l.drop 52)))).heap[w2.heap.size]? = some (.cells (hArr (takeFour (l.drop 8)) (takeFour (l.drop 12)) (takeEight (l.drop 16)) (takeFour (l.drop 24)) (takeFour (l.drop 28)) (takeFour (l.drop 32)) (takeFour (l.drop 36)) (takeFour (l.drop 40)) (takeFour (l.drop 44)) (takeFour (l.drop 48)) (takeFour (l.drop 52))) 110)) := setAt J7.out 10 _
  have C12 : Hid (Chg [] (w.alloc (.cells (hArr 0 0 0 0 0 0 0 0 0 0 0) 110)) (u7.setCell ⟨w2.heap.size, 10, none⟩ (.int .i64 (takeFour (l.drop 52))))) := (C11.out.after hc (by simp)).setCell (.inr (by show (w.alloc _).heap.size ≤ w2.heap.size; rw [← HH.out]; simp; omega)) _
  have z7 : u7.cell? ⟨w2.heap.size, 10, none⟩ = some (.int .i64 0) := cellAt J7.out 10
  have fz7 : u7.frozen? ⟨w2.heap.size, 10, none⟩ = false := freeAt J7.out 10
  clear hy hb hc hs
  go_wp2_with fail
  have K := K12.out
  have C := C12.out
  have k0 : (u7.setCell ⟨w2.heap.size, 10, none⟩ (.int .i64 (takeFour (l.drop 52)))).cell? ⟨w2.heap.size, 0, none⟩ = some (.int .i64 (takeFour (l.drop 8))) := cellAt K 0
  have k1 : (u7.setCell ⟨w2.heap.size, 10, none⟩ (.int .i64 (takeFour (l.drop 52)))).cell? ⟨w2.heap.size, 1, none⟩ = some (.int .i64 (takeFour (l.drop 12))) := cellAt K 1
  have k2 : (u7.setCell ⟨w2.heap.size, 10, none⟩ (.int .i64 (takeFour (l.drop 52)))).cell? ⟨w2.heap.size, 2, none⟩ = some (.int .u64 (takeEight (l.drop 16))) := cellAt K 2
  have k3 : (u7.setCell ⟨w2.heap.size, 10, none⟩ (.int .i64 (takeFour (l.drop 52)))).cell? ⟨w2.heap.size, 3, none⟩ = some (.int .i64 (takeFour (l.drop 24))) := cellAt K 3
  have k4 : (u7.setCell ⟨w2.heap.size, 10, none⟩ (.int .i64 (takeFour (l.drop 52)))).cell? ⟨w2.heap.size, 4, none⟩ = some (.int .i64 (takeFour (l.drop 28))) := cellAt K 4
  have k5 : (u7.setCell ⟨w2.heap.size, 10, none⟩ (.int .i64 (takeFour (l.drop 52)))).cell? ⟨w2.heap.size, 5, none⟩ = some (.int .i64 (takeFour (l.drop 32))) := cellAt K 5
  have k6 : (u7.setCell ⟨w2.heap.size, 10, none⟩ (.int .i64 (takeFour (l.drop 52)))).cell? ⟨w2.heap.size, 6, none⟩ = some (.int .i64 (takeFour (l.drop 36))) := cellAt K 6
  have k7 : (u7.setCell ⟨w2.heap.size, 10, none⟩ (.int .i64 (takeFour (l.drop 52)))).cell? ⟨w2.heap.size, 7, none⟩ = some (.int .i64 (takeFour (l.drop 40))) := cellAt K 7
  have k8 : (u7.setCell ⟨w2.heap.size, 10, none⟩ (.int .i64 (takeFour (l.drop 52)))).cell? ⟨w2.heap.size, 8, none⟩ = some (.int .i64 (takeFour (l.drop 44))) := cellAt K 8
  have k9 : (u7.setCell ⟨w2.heap.size, 10, none⟩ (.int .i64 (takeFour (l.drop 52)))).cell? ⟨w2.heap.size, 9, none⟩ = some (.int .i64 (takeFour (l.drop 48))) := cellAt K 9
  have k10 : (u7.setCell ⟨w2.heap.size, 10, none⟩ (.int .i64 (takeFour (l.drop 52)))).cell? ⟨w2.heap.size, 10, none⟩ = some (.int .i64 (takeFour (l.drop 52))) := cellAt K 10
  have CH := Lib.hid C
  have KH := Lib.hid K
  clear z0 fz0 z1 fz1 z2 fz2 z3 fz3 z4 fz4 z5 fz5 z6 fz6 z7 fz7 K C X11 K12 C12
  generalize (u7.setCell ⟨w2.heap.size, 10, none⟩ (.int .i64 (takeFour (l.drop 52)))) = v1 at *
  rw [rounds_succ]
  go_wp2_with fail
  have bd1 := takeFour_bd (l.drop 16)
  have bd2 := takeFour_bd ((l.drop 16).drop 4)
  have TE : Hid (0 ≤ (rawH l).commits / 4294967296 ∧ (rawH l).commits / 4294967296 < 4294967296) := by
    show 0 ≤ takeEight (l.drop 16) / 4294967296 ∧ takeEight (l.drop 16) / 4294967296 < 4294967296
    unfold takeEight
    omega
  clear bd1 bd2
  by_cases hm : mayB (rawH l) = true
  · refine (put_ok (rawH l) hm TE.out.1 TE.out.2 _).mono ?_
    rintro e v2 ⟨rfl, hb⟩
    have Z2 : v2.heap[w.heap.size]? = some (.cells (hArr 0 0 0 0 0 0 0 0 0 0 0) 110) := Below.get hb (CH.out.get (heap_alloc_new w _) (by simp))
    have p0 : v2.cell? ⟨w.heap.size, 0, none⟩ = some (.int .i64 0) := cellAt Z2 0
    have pf0 : v2.frozen? ⟨w.heap.size, 0, none⟩ = false := freeAt Z2 0
    have kk0 := cell_later hb k0
    have p1 : v2.cell? ⟨w.heap.size, 1, none⟩ = some (.int .i64 0) := cellAt Z2 1
    have pf1 : v2.frozen? ⟨w.heap.size, 1, none⟩ = false := freeAt Z2 1
    have kk1 := cell_later hb k1
    have p2 : v2.cell? ⟨w.heap.size, 2, none⟩ = some (.int .u64 0) := cellAt Z2 2
    have pf2 : v2.frozen? ⟨w.heap.size, 2, none⟩ = false := freeAt Z2 2
    have kk2 := cell_later hb k2
    have p3 : v2.cell? ⟨w.heap.size, 3, none⟩ = some (.int .i64 0) := cellAt Z2 3
    have pf3 : v2.frozen? ⟨w.heap.size, 3, none⟩ = false := freeAt Z2 3
    have kk3 := cell_later hb k3
    have p4 : v2.cell? ⟨w.heap.size, 4, none⟩ = some (.int .i64 0) := cellAt Z2 4
    have pf4 : v2.frozen? ⟨w.heap.size, 4, none⟩ = false := freeAt Z2 4
    have kk4 := cell_later hb k4
    have p5 : v2.cell? ⟨w.heap.size, 5, none⟩ = some (.int .i64 0) := cellAt Z2 5
    have pf5 : v2.frozen? ⟨w.heap.size, 5, none⟩ = false := freeAt Z2 5
    have kk5 := cell_later hb k5
    have p6 : v2.cell? ⟨w.heap.size, 6, none⟩ = some (.int .i64 0) := cellAt Z2 6
    have pf6 : v2.frozen? ⟨w.heap.size, 6, none⟩ = false := freeAt Z2 6
    have kk6 := cell_later hb k6
    have p7 : v2.cell? ⟨w.heap.size, 7, none⟩ = some (.int .i64 0) := cellAt Z2 7
    have pf7 : v2.frozen? ⟨w.heap.size, 7, none⟩ = false := freeAt Z2 7
    have kk7 := cell_later hb k7
    have p8 : v2.cell? ⟨w.heap.size, 8, none⟩ = some (.int .i64 0) := cellAt Z2 8
    have pf8 : v2.frozen? ⟨w.heap.size, 8, none⟩ = false := freeAt Z2 8
    have kk8 := cell_later hb k8
    have p9 : v2.cell? ⟨w.heap.size, 9, none⟩ = some (.int .i64 0) := cellAt Z2 9
    have pf9 : v2.frozen? ⟨w.heap.size, 9, none⟩ = false := freeAt Z2 9
    have kk9 := cell_later hb k9
    have p10 : v2.cell? ⟨w.heap.size, 10, none⟩ = some (.int .i64 0) := cellAt Z2 10
    have pf10 : v2.frozen? ⟨w.heap.size, 10, none⟩ = false := freeAt Z2 10
    have kk10 := cell_later hb k10
    have HB := Lib.hid hb
    have HM := Lib.hid hm
    have HZ := Lib.hid Z2
    clear hb hm Z2 k0 k1 k2 k3 k4 k5 k6 k7 k8 k9 k10
    by_cases heq : putH (rawH l) = l
    · have HE := Lib.hid heq
      have hq : (putH (rawH l) == s.toList) = true := by
        rw [ByteArray.toList_eq, SL.out, HE.out]; simp
      clear heq
      go_wp2
      have hW : (((((((((((v2.setCell ⟨w.heap.size, 0, none⟩ (.int .i64 (takeFour (l.drop 8)))).setCell ⟨w.heap.size, 1, none⟩ (.int .i64 (takeFour (l.drop 12)))).setCell ⟨w.heap.size, 2, none⟩ (.int .u64 (takeEight (l.drop 16)))).setCell ⟨w.heap.size, 3, none⟩ (.int .i64 (takeFour (l.drop 24)))).setCell ⟨w.heap.size, 4, none⟩ (.int .i64 (takeFour (l.drop 28)))).setCell ⟨w.heap.size, 5, none⟩ (.int .i64 (takeFour (l.drop 32)))).setCell ⟨w.heap.size, 6, none⟩ (.int .i64 (takeFour (l.drop 36)))).setCell ⟨w.heap.size, 7, none⟩ (.int .i64 (takeFour (l.drop 40)))).setCell ⟨w.heap.size, 8, none⟩ (.int .i64 (takeFour (l.drop 44)))).setCell ⟨w.heap.size, 9, none⟩ (.int .i64 (takeFour (l.drop 48)))).setCell ⟨w.heap.size, 10, none⟩ (.int .i64 (takeFour (l.drop 52)))).heap[w.heap.size]? = some (.cells (hArr (takeFour (l.drop 8)) (takeFour (l.drop 12)) (takeEight (l.drop 16)) (takeFour (l.drop 24)) (takeFour (l.drop 28)) (takeFour (l.drop 32)) (takeFour (l.drop 36)) (takeFour (l.drop 40)) (takeFour (l.drop 44)) (takeFour (l.drop 48)) (takeFour (l.drop 52))) 110) := set11 _ _ _ _ _ _ _ _ _ _ _ HZ.out
      have hB : Below w.heap.size w (((((((((((v2.setCell ⟨w.heap.size, 0, none⟩ (.int .i64 (takeFour (l.drop 8)))).setCell ⟨w.heap.size, 1, none⟩ (.int .i64 (takeFour (l.drop 12)))).setCell ⟨w.heap.size, 2, none⟩ (.int .u64 (takeEight (l.drop 16)))).setCell ⟨w.heap.size, 3, none⟩ (.int .i64 (takeFour (l.drop 24)))).setCell ⟨w.heap.size, 4, none⟩ (.int .i64 (takeFour (l.drop 28)))).setCell ⟨w.heap.size, 5, none⟩ (.int .i64 (takeFour (l.drop 32)))).setCell ⟨w.heap.size, 6, none⟩ (.int .i64 (takeFour (l.drop 36)))).setCell ⟨w.heap.size, 7, none⟩ (.int .i64 (takeFour (l.drop 40)))).setCell ⟨w.heap.size, 8, none⟩ (.int .i64 (takeFour (l.drop 44)))).setCell ⟨w.heap.size, 9, none⟩ (.int .i64 (takeFour (l.drop 48)))).setCell ⟨w.heap.size, 10, none⟩ (.int .i64 (takeFour (l.drop 52)))) := by
        refine below11 _ _ _ _ _ _ _ _ _ _ _ ?_ (Nat.le_refl _)
        exact (((Below.refl _ _).alloc (Nat.le_refl _) _).trans ((CH.out.to_below (Nat.le_refl _) (by simp)).mono (by simp))).trans (HB.out.mono (by have h1 := CH.out.size; simp at h1; omega))
      generalize (((((((((((v2.setCell ⟨w.heap.size, 0, none⟩ (.int .i64 (takeFour (l.drop 8)))).setCell ⟨w.heap.size, 1, none⟩ (.int .i64 (takeFour (l.drop 12)))).setCell ⟨w.heap.size, 2, none⟩ (.int .u64 (takeEight (l.drop 16)))).setCell ⟨w.heap.size, 3, none⟩ (.int .i64 (takeFour (l.drop 24)))).setCell ⟨w.heap.size, 4, none⟩ (.int .i64 (takeFour (l.drop 28)))).setCell ⟨w.heap.size, 5, none⟩ (.int .i64 (takeFour (l.drop 32)))).setCell ⟨w.heap.size, 6, none⟩ (.int .i64 (takeFour (l.drop 36)))).setCell ⟨w.heap.size, 7, none⟩ (.int .i64 (takeFour (l.drop 40)))).setCell ⟨w.heap.size, 8, none⟩ (.int .i64 (takeFour (l.drop 44)))).setCell ⟨w.heap.size, 9, none⟩ (.int .i64 (takeFour (l.drop 48)))).setCell ⟨w.heap.size, 10, none⟩ (.int .i64 (takeFour (l.drop 52)))) = W at hW hB ⊢
      clear p0 pf0 kk0 p1 pf1 kk1 p2 pf2 kk2 p3 pf3 kk3 p4 pf4 kk4 p5 pf5 kk5 p6 pf6 kk6 p7 pf7 kk7 p8 pf8 kk8 p9 pf9 kk9 p10 pf10 kk10
      have rr0 : W.cell? ⟨w.heap.size, 0, none⟩ = some (.int .i64 (takeFour (l.drop 8))) := cellAt hW 0
      have rr1 : W.cell? ⟨w.heap.size, 1, none⟩ = some (.int .i64 (takeFour (l.drop 12))) := cellAt hW 1
      have rr2 : W.cell? ⟨w.heap.size, 2, none⟩ = some (.int .u64 (takeEight (l.drop 16))) := cellAt hW 2
      have rr3 : W.cell? ⟨w.heap.size, 3, none⟩ = some (.int .i64 (takeFour (l.drop 24))) := cellAt hW 3
      have rr4 : W.cell? ⟨w.heap.size, 4, none⟩ = some (.int .i64 (takeFour (l.drop 28))) := cellAt hW 4
      have rr5 : W.cell? ⟨w.heap.size, 5, none⟩ = some (.int .i64 (takeFour (l.drop 32))) := cellAt hW 5
      have rr6 : W.cell? ⟨w.heap.size, 6, none⟩ = some (.int .i64 (takeFour (l.drop 36))) := cellAt hW 6
      have rr7 : W.cell? ⟨w.heap.size, 7, none⟩ = some (.int .i64 (takeFour (l.drop 40))) := cellAt hW 7
      have rr8 : W.cell? ⟨w.heap.size, 8, none⟩ = some (.int .i64 (takeFour (l.drop 44))) := cellAt hW 8
      have rr9 : W.cell? ⟨w.heap.size, 9, none⟩ = some (.int .i64 (takeFour (l.drop 48))) := cellAt hW 9
      have rr10 : W.cell? ⟨w.heap.size, 10, none⟩ = some (.int .i64 (takeFour (l.drop 52))) := cellAt hW 10
      have hres : takeRes (takeH l) = .tuple #[hdrV (rawH l), .int .i64 0] := by
        unfold takeH
        rw [if_pos LEN.out, if_pos (by rw [HM.out, HE.out]; simp)]; rfl
      exact bodyPost_ret (v := .tuple #[.agg (hArr (takeFour (l.drop 8)) (takeFour (l.drop 12)) (takeEight (l.drop 16)) (takeFour (l.drop 24)) (takeFour (l.drop 28)) (takeFour (l.drop 32)) (takeFour (l.drop 36)) (takeFour (l.drop 40)) (takeFour (l.drop 44)) (takeFour (l.drop 48)) (takeFour (l.drop 52))), .int .i64 0]) (by simp [results, Tryz.results120, go_sem, rr0, rr1, rr2, rr3, rr4, rr5, rr6, rr7, rr8, rr9, rr10]; try rfl) rfl ⟨by rw [hres]; rfl, hB⟩
    · have HE := Lib.hid heq
      have hq : (putH (rawH l) == s.toList) = false := by
        rw [ByteArray.toList_eq, SL.out]; simpa using HE.out
      clear heq
      go_wp2
      have hW : (((((((((((v2.setCell ⟨w.heap.size, 0, none⟩ (.int .i64 (0))).setCell ⟨w.heap.size, 1, none⟩ (.int .i64 (0))).setCell ⟨w.heap.size, 2, none⟩ (.int .u64 (0))).setCell ⟨w.heap.size, 3, none⟩ (.int .i64 (0))).setCell ⟨w.heap.size, 4, none⟩ (.int .i64 (0))).setCell ⟨w.heap.size, 5, none⟩ (.int .i64 (0))).setCell ⟨w.heap.size, 6, none⟩ (.int .i64 (0))).setCell ⟨w.heap.size, 7, none⟩ (.int .i64 (0))).setCell ⟨w.heap.size, 8, none⟩ (.int .i64 (0))).setCell ⟨w.heap.size, 9, none⟩ (.int .i64 (0))).setCell ⟨w.heap.size, 10, none⟩ (.int .i64 (0))).heap[w.heap.size]? = some (.cells (hArr (0) (0) (0) (0) (0) (0) (0) (0) (0) (0) (0)) 110) := set11 _ _ _ _ _ _ _ _ _ _ _ HZ.out
      have hB : Below w.heap.size w (((((((((((v2.setCell ⟨w.heap.size, 0, none⟩ (.int .i64 (0))).setCell ⟨w.heap.size, 1, none⟩ (.int .i64 (0))).setCell ⟨w.heap.size, 2, none⟩ (.int .u64 (0))).setCell ⟨w.heap.size, 3, none⟩ (.int .i64 (0))).setCell ⟨w.heap.size, 4, none⟩ (.int .i64 (0))).setCell ⟨w.heap.size, 5, none⟩ (.int .i64 (0))).setCell ⟨w.heap.size, 6, none⟩ (.int .i64 (0))).setCell ⟨w.heap.size, 7, none⟩ (.int .i64 (0))).setCell ⟨w.heap.size, 8, none⟩ (.int .i64 (0))).setCell ⟨w.heap.size, 9, none⟩ (.int .i64 (0))).setCell ⟨w.heap.size, 10, none⟩ (.int .i64 (0))) := by
        refine below11 _ _ _ _ _ _ _ _ _ _ _ ?_ (Nat.le_refl _)
        exact (((Below.refl _ _).alloc (Nat.le_refl _) _).trans ((CH.out.to_below (Nat.le_refl _) (by simp)).mono (by simp))).trans (HB.out.mono (by have h1 := CH.out.size; simp at h1; omega))
      generalize (((((((((((v2.setCell ⟨w.heap.size, 0, none⟩ (.int .i64 (0))).setCell ⟨w.heap.size, 1, none⟩ (.int .i64 (0))).setCell ⟨w.heap.size, 2, none⟩ (.int .u64 (0))).setCell ⟨w.heap.size, 3, none⟩ (.int .i64 (0))).setCell ⟨w.heap.size, 4, none⟩ (.int .i64 (0))).setCell ⟨w.heap.size, 5, none⟩ (.int .i64 (0))).setCell ⟨w.heap.size, 6, none⟩ (.int .i64 (0))).setCell ⟨w.heap.size, 7, none⟩ (.int .i64 (0))).setCell ⟨w.heap.size, 8, none⟩ (.int .i64 (0))).setCell ⟨w.heap.size, 9, none⟩ (.int .i64 (0))).setCell ⟨w.heap.size, 10, none⟩ (.int .i64 (0))) = W at hW hB ⊢
      clear p0 pf0 kk0 p1 pf1 kk1 p2 pf2 kk2 p3 pf3 kk3 p4 pf4 kk4 p5 pf5 kk5 p6 pf6 kk6 p7 pf7 kk7 p8 pf8 kk8 p9 pf9 kk9 p10 pf10 kk10
      have rr0 : W.cell? ⟨w.heap.size, 0, none⟩ = some (.int .i64 (0)) := cellAt hW 0
      have rr1 : W.cell? ⟨w.heap.size, 1, none⟩ = some (.int .i64 (0)) := cellAt hW 1
      have rr2 : W.cell? ⟨w.heap.size, 2, none⟩ = some (.int .u64 (0)) := cellAt hW 2
      have rr3 : W.cell? ⟨w.heap.size, 3, none⟩ = some (.int .i64 (0)) := cellAt hW 3
      have rr4 : W.cell? ⟨w.heap.size, 4, none⟩ = some (.int .i64 (0)) := cellAt hW 4
      have rr5 : W.cell? ⟨w.heap.size, 5, none⟩ = some (.int .i64 (0)) := cellAt hW 5
      have rr6 : W.cell? ⟨w.heap.size, 6, none⟩ = some (.int .i64 (0)) := cellAt hW 6
      have rr7 : W.cell? ⟨w.heap.size, 7, none⟩ = some (.int .i64 (0)) := cellAt hW 7
      have rr8 : W.cell? ⟨w.heap.size, 8, none⟩ = some (.int .i64 (0)) := cellAt hW 8
      have rr9 : W.cell? ⟨w.heap.size, 9, none⟩ = some (.int .i64 (0)) := cellAt hW 9
      have rr10 : W.cell? ⟨w.heap.size, 10, none⟩ = some (.int .i64 (0)) := cellAt hW 10
      have hres : takeRes (takeH l) = .tuple #[hdrV hdr0, .int .i64 7] := by
        unfold takeH
        rw [if_pos LEN.out, if_neg (by simpa using fun _ => HE.out)]; rfl
      exact bodyPost_ret (v := .tuple #[.agg (hArr 0 0 0 0 0 0 0 0 0 0 0), .int .i64 7]) (by simp [results, Tryz.results120, go_sem, rr0, rr1, rr2, rr3, rr4, rr5, rr6, rr7, rr8, rr9, rr10]; try rfl) rfl ⟨by rw [hres]; rfl, hB⟩
  · refine (put_bad (rawH l) (by simpa using hm) _).mono ?_
    rintro e v2 ⟨rfl, hb⟩
    have Z2 : v2.heap[w.heap.size]? = some (.cells (hArr 0 0 0 0 0 0 0 0 0 0 0) 110) := Below.get hb (CH.out.get (heap_alloc_new w _) (by simp))
    have p0 : v2.cell? ⟨w.heap.size, 0, none⟩ = some (.int .i64 0) := cellAt Z2 0
    have pf0 : v2.frozen? ⟨w.heap.size, 0, none⟩ = false := freeAt Z2 0
    have kk0 := cell_later hb k0
    have p1 : v2.cell? ⟨w.heap.size, 1, none⟩ = some (.int .i64 0) := cellAt Z2 1
    have pf1 : v2.frozen? ⟨w.heap.size, 1, none⟩ = false := freeAt Z2 1
    have kk1 := cell_later hb k1
    have p2 : v2.cell? ⟨w.heap.size, 2, none⟩ = some (.int .u64 0) := cellAt Z2 2
    have pf2 : v2.frozen? ⟨w.heap.size, 2, none⟩ = false := freeAt Z2 2
    have kk2 := cell_later hb k2
    have p3 : v2.cell? ⟨w.heap.size, 3, none⟩ = some (.int .i64 0) := cellAt Z2 3
    have pf3 : v2.frozen? ⟨w.heap.size, 3, none⟩ = false := freeAt Z2 3
    have kk3 := cell_later hb k3
    have p4 : v2.cell? ⟨w.heap.size, 4, none⟩ = some (.int .i64 0) := cellAt Z2 4
    have pf4 : v2.frozen? ⟨w.heap.size, 4, none⟩ = false := freeAt Z2 4
    have kk4 := cell_later hb k4
    have p5 : v2.cell? ⟨w.heap.size, 5, none⟩ = some (.int .i64 0) := cellAt Z2 5
    have pf5 : v2.frozen? ⟨w.heap.size, 5, none⟩ = false := freeAt Z2 5
    have kk5 := cell_later hb k5
    have p6 : v2.cell? ⟨w.heap.size, 6, none⟩ = some (.int .i64 0) := cellAt Z2 6
    have pf6 : v2.frozen? ⟨w.heap.size, 6, none⟩ = false := freeAt Z2 6
    have kk6 := cell_later hb k6
    have p7 : v2.cell? ⟨w.heap.size, 7, none⟩ = some (.int .i64 0) := cellAt Z2 7
    have pf7 : v2.frozen? ⟨w.heap.size, 7, none⟩ = false := freeAt Z2 7
    have kk7 := cell_later hb k7
    have p8 : v2.cell? ⟨w.heap.size, 8, none⟩ = some (.int .i64 0) := cellAt Z2 8
    have pf8 : v2.frozen? ⟨w.heap.size, 8, none⟩ = false := freeAt Z2 8
    have kk8 := cell_later hb k8
    have p9 : v2.cell? ⟨w.heap.size, 9, none⟩ = some (.int .i64 0) := cellAt Z2 9
    have pf9 : v2.frozen? ⟨w.heap.size, 9, none⟩ = false := freeAt Z2 9
    have kk9 := cell_later hb k9
    have p10 : v2.cell? ⟨w.heap.size, 10, none⟩ = some (.int .i64 0) := cellAt Z2 10
    have pf10 : v2.frozen? ⟨w.heap.size, 10, none⟩ = false := freeAt Z2 10
    have kk10 := cell_later hb k10
    have HB := Lib.hid hb
    have HM := Lib.hid hm
    have HZ := Lib.hid Z2
    clear hb hm Z2 k0 k1 k2 k3 k4 k5 k6 k7 k8 k9 k10
    go_wp2
    have hW : (((((((((((v2.setCell ⟨w.heap.size, 0, none⟩ (.int .i64 (0))).setCell ⟨w.heap.size, 1, none⟩ (.int .i64 (0))).setCell ⟨w.heap.size, 2, none⟩ (.int .u64 (0))).setCell ⟨w.heap.size, 3, none⟩ (.int .i64 (0))).setCell ⟨w.heap.size, 4, none⟩ (.int .i64 (0))).setCell ⟨w.heap.size, 5, none⟩ (.int .i64 (0))).setCell ⟨w.heap.size, 6, none⟩ (.int .i64 (0))).setCell ⟨w.heap.size, 7, none⟩ (.int .i64 (0))).setCell ⟨w.heap.size, 8, none⟩ (.int .i64 (0))).setCell ⟨w.heap.size, 9, none⟩ (.int .i64 (0))).setCell ⟨w.heap.size, 10, none⟩ (.int .i64 (0))).heap[w.heap.size]? = some (.cells (hArr (0) (0) (0) (0) (0) (0) (0) (0) (0) (0) (0)) 110) := set11 _ _ _ _ _ _ _ _ _ _ _ HZ.out
    have hB : Below w.heap.size w (((((((((((v2.setCell ⟨w.heap.size, 0, none⟩ (.int .i64 (0))).setCell ⟨w.heap.size, 1, none⟩ (.int .i64 (0))).setCell ⟨w.heap.size, 2, none⟩ (.int .u64 (0))).setCell ⟨w.heap.size, 3, none⟩ (.int .i64 (0))).setCell ⟨w.heap.size, 4, none⟩ (.int .i64 (0))).setCell ⟨w.heap.size, 5, none⟩ (.int .i64 (0))).setCell ⟨w.heap.size, 6, none⟩ (.int .i64 (0))).setCell ⟨w.heap.size, 7, none⟩ (.int .i64 (0))).setCell ⟨w.heap.size, 8, none⟩ (.int .i64 (0))).setCell ⟨w.heap.size, 9, none⟩ (.int .i64 (0))).setCell ⟨w.heap.size, 10, none⟩ (.int .i64 (0))) := by
      refine below11 _ _ _ _ _ _ _ _ _ _ _ ?_ (Nat.le_refl _)
      exact (((Below.refl _ _).alloc (Nat.le_refl _) _).trans ((CH.out.to_below (Nat.le_refl _) (by simp)).mono (by simp))).trans (HB.out.mono (by have h1 := CH.out.size; simp at h1; omega))
    generalize (((((((((((v2.setCell ⟨w.heap.size, 0, none⟩ (.int .i64 (0))).setCell ⟨w.heap.size, 1, none⟩ (.int .i64 (0))).setCell ⟨w.heap.size, 2, none⟩ (.int .u64 (0))).setCell ⟨w.heap.size, 3, none⟩ (.int .i64 (0))).setCell ⟨w.heap.size, 4, none⟩ (.int .i64 (0))).setCell ⟨w.heap.size, 5, none⟩ (.int .i64 (0))).setCell ⟨w.heap.size, 6, none⟩ (.int .i64 (0))).setCell ⟨w.heap.size, 7, none⟩ (.int .i64 (0))).setCell ⟨w.heap.size, 8, none⟩ (.int .i64 (0))).setCell ⟨w.heap.size, 9, none⟩ (.int .i64 (0))).setCell ⟨w.heap.size, 10, none⟩ (.int .i64 (0))) = W at hW hB ⊢
    clear p0 pf0 kk0 p1 pf1 kk1 p2 pf2 kk2 p3 pf3 kk3 p4 pf4 kk4 p5 pf5 kk5 p6 pf6 kk6 p7 pf7 kk7 p8 pf8 kk8 p9 pf9 kk9 p10 pf10 kk10
    have rr0 : W.cell? ⟨w.heap.size, 0, none⟩ = some (.int .i64 (0)) := cellAt hW 0
    have rr1 : W.cell? ⟨w.heap.size, 1, none⟩ = some (.int .i64 (0)) := cellAt hW 1
    have rr2 : W.cell? ⟨w.heap.size, 2, none⟩ = some (.int .u64 (0)) := cellAt hW 2
    have rr3 : W.cell? ⟨w.heap.size, 3, none⟩ = some (.int .i64 (0)) := cellAt hW 3
    have rr4 : W.cell? ⟨w.heap.size, 4, none⟩ = some (.int .i64 (0)) := cellAt hW 4
    have rr5 : W.cell? ⟨w.heap.size, 5, none⟩ = some (.int .i64 (0)) := cellAt hW 5
    have rr6 : W.cell? ⟨w.heap.size, 6, none⟩ = some (.int .i64 (0)) := cellAt hW 6
    have rr7 : W.cell? ⟨w.heap.size, 7, none⟩ = some (.int .i64 (0)) := cellAt hW 7
    have rr8 : W.cell? ⟨w.heap.size, 8, none⟩ = some (.int .i64 (0)) := cellAt hW 8
    have rr9 : W.cell? ⟨w.heap.size, 9, none⟩ = some (.int .i64 (0)) := cellAt hW 9
    have rr10 : W.cell? ⟨w.heap.size, 10, none⟩ = some (.int .i64 (0)) := cellAt hW 10
    have hres : takeRes (takeH l) = .tuple #[hdrV hdr0, .int .i64 7] := by
      unfold takeH
      rw [if_pos LEN.out, if_neg (by simp [HM.out])]; rfl
    exact bodyPost_ret (v := .tuple #[.agg (hArr 0 0 0 0 0 0 0 0 0 0 0), .int .i64 7]) (by simp [results, Tryz.results120, go_sem, rr0, rr1, rr2, rr3, rr4, rr5, rr6, rr7, rr8, rr9, rr10]; try rfl) rfl ⟨by rw [hres]; rfl, hB⟩

end Go.Proofs.YtobmnnihmbdfjaaGreat
