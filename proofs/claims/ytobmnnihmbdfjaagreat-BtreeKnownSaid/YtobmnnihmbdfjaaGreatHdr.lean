/- Headers: what was put is taken. What a page's bytes come to. -/
import Derived.Test.YtobmnnihmbdfjaaGreatTree5
set_option linter.all false
namespace Go.Proofs.YtobmnnihmbdfjaaGreat
open Go.RowKit

theorem takeFour_four (n : Int) (h0 : 0 ≤ n) (h1 : n < 4294967296) (r : List UInt8) : takeFour (four n ++ r) = n := by
  simp [takeFour, four, byteOf_mod]
  omega
theorem takeEight_eight (n : Int) (h0 : U64 n) (r : List UInt8) : takeEight (eight n ++ r) = n := by
  obtain ⟨a, b⟩ := h0
  have e : ∀ m : Int, (four m ++ (four (n % 4294967296) ++ r)).drop 4 = four (n % 4294967296) ++ r := fun m => by simp [four]
  simp only [takeEight, eight, List.append_assoc]
  rw [takeFour_four _ a b, e, takeFour_four _ (by omega) (by omega)]
  omega
theorem mayB_all {h : Hdr} (hm : mayB h = true) : (0 ≤ h.free ∧ h.free ≤ 256) ∧ h.free ≠ 1 ∧ (0 ≤ h.count ∧ h.count ≤ 256) ∧ (0 ≤ h.r0 ∧ h.r0 ≤ 256) ∧ (0 ≤ h.r1 ∧ h.r1 ≤ 256) ∧ (0 ≤ h.r2 ∧ h.r2 ≤ 256) ∧ (0 ≤ h.r3 ∧ h.r3 ≤ 256) ∧ (0 ≤ h.r4 ∧ h.r4 ≤ 256) ∧ (0 ≤ h.r5 ∧ h.r5 ≤ 256) ∧ (0 ≤ h.r6 ∧ h.r6 ≤ 256) ∧ (0 ≤ h.r7 ∧ h.r7 ≤ 256) := by
  simp [mayB, rootsB, pageB] at hm
  omega
theorem rawH_putH (h : Hdr) (hm : mayB h = true) (hu : U64 h.commits) : rawH (putH h) = h := by
  obtain ⟨⟨a1, a2⟩, -, ⟨b1, b2⟩, ⟨c1, c2⟩, ⟨d1, d2⟩, ⟨e1, e2⟩, ⟨f1, f2⟩, ⟨g1, g2⟩, ⟨h1, h2⟩, ⟨i1, i2⟩, ⟨j1, j2⟩⟩ := mayB_all hm
  obtain ⟨fr, co, cm, r0, r1, r2, r3, r4, r5, r6, r7⟩ := h
  simp only at *
  have k : ∀ (a b : List UInt8) (n : Nat), a.length = n → (a ++ b).drop n = b := fun a b n hn => by rw [← hn]; simp
  have key : ∀ (pre a suf : List UInt8) (n : Nat), pre.length = n → ((pre ++ a) ++ suf).drop n = a ++ suf := fun pre a suf n hn => by rw [List.append_assoc, k _ _ _ hn]
  unfold rawH putH
  simp only [List.append_assoc]
  have p8 : cfword.length = 8 := rfl
  congr 1
  · rw [k _ _ 8 rfl, takeFour_four _ a1 (by omega)]
  · rw [show (12 : Nat) = 8 + 4 by rfl, ← List.drop_drop, k _ _ 8 rfl, k _ _ 4 rfl, takeFour_four _ b1 (by omega)]
  · rw [show (16 : Nat) = 8 + 4 + 4 by rfl, ← List.drop_drop, ← List.drop_drop, k _ _ 8 rfl, k _ _ 4 rfl, k _ _ 4 rfl, takeEight_eight _ hu]
  · rw [show (24 : Nat) = 8 + 4 + 4 + 8 by rfl, ← List.drop_drop, ← List.drop_drop, ← List.drop_drop, k _ _ 8 rfl, k _ _ 4 rfl, k _ _ 4 rfl, k _ _ 8 rfl, takeFour_four _ c1 (by omega)]
  · rw [show (28 : Nat) = 8 + 4 + 4 + 8 + 4 by rfl, ← List.drop_drop, ← List.drop_drop, ← List.drop_drop, ← List.drop_drop, k _ _ 8 rfl, k _ _ 4 rfl, k _ _ 4 rfl, k _ _ 8 rfl, k _ _ 4 rfl, takeFour_four _ d1 (by omega)]
  · rw [show (32 : Nat) = 8 + 4 + 4 + 8 + 4 + 4 by rfl, ← List.drop_drop, ← List.drop_drop, ← List.drop_drop, ← List.drop_drop, ← List.drop_drop, k _ _ 8 rfl, k _ _ 4 rfl, k _ _ 4 rfl, k _ _ 8 rfl, k _ _ 4 rfl, k _ _ 4 rfl, takeFour_four _ e1 (by omega)]
  · rw [show (36 : Nat) = 8 + 4 + 4 + 8 + 4 + 4 + 4 by rfl, ← List.drop_drop, ← List.drop_drop, ← List.drop_drop, ← List.drop_drop, ← List.drop_drop, ← List.drop_drop, k _ _ 8 rfl, k _ _ 4 rfl, k _ _ 4 rfl, k _ _ 8 rfl, k _ _ 4 rfl, k _ _ 4 rfl, k _ _ 4 rfl, takeFour_four _ f1 (by omega)]
  · rw [show (40 : Nat) = 8 + 4 + 4 + 8 + 4 + 4 + 4 + 4 by rfl, ← List.drop_drop, ← List.drop_drop, ← List.drop_drop, ← List.drop_drop, ← List.drop_drop, ← List.drop_drop, ← List.drop_drop, k _ _ 8 rfl, k _ _ 4 rfl, k _ _ 4 rfl, k _ _ 8 rfl, k _ _ 4 rfl, k _ _ 4 rfl, k _ _ 4 rfl, k _ _ 4 rfl, takeFour_four _ g1 (by omega)]
  · rw [show (44 : Nat) = 8 + 4 + 4 + 8 + 4 + 4 + 4 + 4 + 4 by rfl, ← List.drop_drop, ← List.drop_drop, ← List.drop_drop, ← List.drop_drop, ← List.drop_drop, ← List.drop_drop, ← List.drop_drop, ← List.drop_drop, k _ _ 8 rfl, k _ _ 4 rfl, k _ _ 4 rfl, k _ _ 8 rfl, k _ _ 4 rfl, k _ _ 4 rfl, k _ _ 4 rfl, k _ _ 4 rfl, k _ _ 4 rfl, takeFour_four _ h1 (by omega)]
  · rw [show (48 : Nat) = 8 + 4 + 4 + 8 + 4 + 4 + 4 + 4 + 4 + 4 by rfl, ← List.drop_drop, ← List.drop_drop, ← List.drop_drop, ← List.drop_drop, ← List.drop_drop, ← List.drop_drop, ← List.drop_drop, ← List.drop_drop, ← List.drop_drop, k _ _ 8 rfl, k _ _ 4 rfl, k _ _ 4 rfl, k _ _ 8 rfl, k _ _ 4 rfl, k _ _ 4 rfl, k _ _ 4 rfl, k _ _ 4 rfl, k _ _ 4 rfl, k _ _ 4 rfl, takeFour_four _ i1 (by omega)]
  · rw [show (52 : Nat) = 8 + 4 + 4 + 8 + 4 + 4 + 4 + 4 + 4 + 4 + 4 by rfl, ← List.drop_drop, ← List.drop_drop, ← List.drop_drop, ← List.drop_drop, ← List.drop_drop, ← List.drop_drop, ← List.drop_drop, ← List.drop_drop, ← List.drop_drop, ← List.drop_drop, k _ _ 8 rfl, k _ _ 4 rfl, k _ _ 4 rfl, k _ _ 8 rfl, k _ _ 4 rfl, k _ _ 4 rfl, k _ _ 4 rfl, k _ _ 4 rfl, k _ _ 4 rfl, k _ _ 4 rfl, k _ _ 4 rfl, takeFour_four _ j1 (by omega)]
theorem takeH_putH (h : Hdr) (hm : mayB h = true) (hu : U64 h.commits) : takeH (putH h) = some h := by
  unfold takeH
  rw [if_pos (putH_length h), rawH_putH h hm hu, hm]
  simp
theorem mayB_free {h : Hdr} (hm : mayB h = true) (n : Int) (h0 : 2 ≤ n) (h9 : n ≤ 256) : mayB { h with free := n, count := min (h.count + 1) 256 } = true := by
  obtain ⟨-, -, ⟨b1, b2⟩, ⟨c1, c2⟩, ⟨d1, d2⟩, ⟨e1, e2⟩, ⟨f1, f2⟩, ⟨g1, g2⟩, ⟨h1, h2⟩, ⟨i1, i2⟩, ⟨j1, j2⟩⟩ := mayB_all hm
  simp [mayB, rootsB, pageB, *]
  omega

/-- A page's size is its bytes. -/
theorem sizeN_bytes (x : NodeM) (hm : mayN x = true) (hk : x.kind = 1 ∨ x.kind = 2) : sizeN x = (bytesN x).length := by
  obtain ⟨k, f, l, d⟩ := x
  simp only at hk
  have key : ∀ (k : Int) (l : List CellM), (∀ c ∈ l, cellB k c = true) → (k = 1 ∨ k = 2) → sizeC k l = ((l.flatMap (cellBytes k)).length : Int) := by
    intro k l
    induction l with
    | nil => intro _ _; simp [sizeC]
    | cons c l ih =>
      intro h hk
      rw [sizeC, ih (fun d hd => h d (by simp [hd])) hk, List.flatMap_cons, List.length_append]
      have hc := h c (by simp)
      have : cellSize k c = ((cellBytes k c).length : Int) := by
        rcases hk with rfl | rfl
        · simp only [cellSize, cellBytes, if_true, List.length_append, List.length_cons, List.length_nil, two_length]
          split <;> simp [four_length] <;> omega
        · obtain ⟨-, -, h3, -, -⟩ := cellB_inner hc
          simp only [cellSize, cellBytes, h3, show ¬ (2 : Int) = 1 by decide, if_false, List.length_append, List.length_cons, List.length_nil]
          split <;> simp [four_length] <;> omega
      rw [this]; simp
  rcases hk with rfl | rfl
  · simp [mayN] at hm
    obtain ⟨⟨rfl, rfl⟩, h3⟩ := hm
    simp only [sizeN, bytesN, headN]
    rw [key 1 l (cellsB_mem h3) (.inl rfl)]
    simp [two_length]; omega
  · simp [mayN] at hm
    obtain ⟨⟨⟨-, rfl⟩, -⟩, h3⟩ := hm
    simp only [sizeN, bytesN, headN]
    rw [key 2 l (cellsB_mem h3) (.inr rfl)]
    simp [two_length, four_length]; omega
end Go.Proofs.YtobmnnihmbdfjaaGreat
