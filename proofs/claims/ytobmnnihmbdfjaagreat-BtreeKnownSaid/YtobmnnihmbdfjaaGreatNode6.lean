/- Pages of trees: node.Put. -/
import Derived.Test.YtobmnnihmbdfjaaGreatNode5
set_option linter.all false
namespace Go.Proofs.YtobmnnihmbdfjaaGreat
open Go.RowKit

/-- What may be asked of a cell of a page that may be. -/
theorem cellsB_each {k : Int} {l : List CellM} (hk : k = 1 ∨ k = 2) (h : cellsB k l = true) : ∀ c ∈ l, c.key.length ≤ 100 ∧ c.loc.length ≤ 100 ∧ 0 ≤ c.size ∧ c.size ≤ 4000 ∧ 0 ≤ c.page ∧ c.page ≤ 256 := by
  intro c hc
  obtain ⟨i, hi, rfl⟩ := List.getElem_of_mem hc
  have h1 := List.all_eq_true.1 h i (by simpa using hi)
  rw [okAt, List.getElem?_eq_getElem hi] at h1
  simp only [Bool.and_eq_true] at h1
  have h2 := h1.1
  generalize l[i] = c at h2
  rcases hk with rfl | rfl
  · simp only [cellB] at h2
    split at h2
    · exact absurd h2 (by simp)
    · rw [if_neg (by decide)] at h2
      split at h2
      · exact absurd h2 (by simp)
      · have : 0 ≤ c.page ∧ c.page ≤ 256 := by
          split at h2
          · simp [pageN] at h2; omega
          · simp at h2; omega
        omega
  · simp only [cellB] at h2
    split at h2
    · exact absurd h2 (by simp)
    · simp [pageN] at h2
      obtain ⟨⟨h3, h4⟩, h5⟩ := h2
      rw [h4]; simp; omega

theorem nbytes_any (x : NodeM) (v : Value) (w : World) (hs : CellsAt w v x.cells) (hn : x.cells.length ≤ 100000) (hm : mayN x = true) :
    Calls Tryz.prog 184 #[nodeV x v] w fun e w' => e = .returned (vs (bytesN x)) ∧ Below w.heap.size w w' := by
  obtain ⟨kind, first, l, data⟩ := x
  obtain ⟨a, cap, rfl⟩ := hs.slice
  by_cases k1 : kind = 1
  · subst k1
    simp only [mayN, if_true, Bool.and_eq_true, beq_iff_eq] at hm
    obtain ⟨⟨rfl, rfl⟩, h3⟩ := hm
    exact nbytes_leaf l a cap w hs hn (cellsB_each (.inl rfl) h3)
  have e1 : (kind == 1) = false := by simpa using k1
  have e2 : (kind != 1) = true := by simpa using k1
  by_cases k2 : kind = 2
  · subst k2
    simp [mayN, pageN] at hm
    obtain ⟨⟨⟨h1, rfl⟩, -⟩, h3⟩ := hm
    exact nbytes_other 2 first (by decide) (by decide) e1 e2 (by omega) (by omega) [] (by simp) l a cap w hs hn (cellsB_each (.inr rfl) h3)
  by_cases k3 : kind = 3
  · subst k3
    simp [mayN, pageN] at hm
    obtain ⟨⟨⟨h1, h2⟩, h3⟩, rfl⟩ := hm
    exact nbytes_other 3 first (by decide) (by decide) e1 e2 (by omega) (by omega) data h3 [] a cap w hs hn (by simp)
  by_cases k4 : kind = 4
  · subst k4
    simp [mayN, pageN] at hm
    obtain ⟨⟨h1, rfl⟩, rfl⟩ := hm
    exact nbytes_other 4 first (by decide) (by decide) e1 e2 (by omega) (by omega) [] (by simp) [] a cap w hs hn (by simp)
  · simp [mayN, k1, k2, k3, k4] at hm

/-- A page as it is written. -/
def padN (l : List UInt8) : List UInt8 := l ++ List.replicate (512 - l.length) 0
def putN (x : NodeM) : List UInt8 × Int :=
  if mayN x = false then ([], 2) else if 512 < (bytesN x).length then ([], 8) else (padN (bytesN x), 0)

set_option maxRecDepth 100000 in
set_option maxHeartbeats 4000000 in
theorem nput_any (x : NodeM) (v : Value) (w : World) (hs : CellsAt w v x.cells) (hz : Small x) :
    Calls Tryz.prog 124 #[nodeV x v] w fun e w' => e = .returned (.tuple #[vs (putN x).1, .int .i64 (putN x).2]) ∧ Below w.heap.size w w' := by
  have HS := Lib.hid hs
  have HZ := Lib.hid hz
  clear hs hz
  obtain ⟨a, cap, rfl⟩ := HS.out.slice
  go_enter Tryz.func124, Tryz.ntmps124
  go_wp2_with fail
  have HA : Hid (Below w.heap.size w (w.alloc (.cells #[.int .u8 x.kind, .int .i64 x.first, .slice a x.cells.length cap, vs x.data] 150))) := (Below.refl _ _).alloc (Nat.le_refl _) _
  have hx0 := heap_alloc_new w (.cells #[.int .u8 x.kind, .int .i64 x.first, .slice a x.cells.length cap, vs x.data] 150)
  generalize (w.alloc (.cells #[.int .u8 x.kind, .int .i64 x.first, .slice a x.cells.length cap, vs x.data] 150)) = w0 at *
  have HX0 := Lib.hid hx0
  clear hx0
  go_at_call 183; refine (nmay_any x _ _ (HS.out.below HA.out) HZ.out).mono ?_; rintro e w1 ⟨rfl, hb1⟩
  have HB1 := Lib.hid (belowThen HA.out hb1)
  have HX1 := Lib.hid (Below.get hb1 HX0.out)
  clear hb1
  cases hm : mayN x with
  | false =>
    have HM := Lib.hid hm
    clear hm
    go_wp2
    go_ret2
    exact ⟨by simp [putN, HM.out], HB1.out⟩
  | true =>
    have HM := Lib.hid hm
    clear hm
    have c0 : w1.cell? ⟨w.heap.size, 0, none⟩ = some (.int .u8 x.kind) := cellAt HX1.out 0
    have c1 : w1.cell? ⟨w.heap.size, 1, none⟩ = some (.int .i64 x.first) := cellAt HX1.out 1
    have c2 : w1.cell? ⟨w.heap.size, 2, none⟩ = some (.slice a x.cells.length cap) := cellAt HX1.out 2
    have c3 : w1.cell? ⟨w.heap.size, 3, none⟩ = some (vs x.data) := cellAt HX1.out 3
    go_wp2_with fail
    go_at_call 184; refine (nbytes_any x _ _ (HS.out.below HB1.out) HZ.out.cells HM.out).mono ?_; rintro e w2 ⟨rfl, hb2⟩
    have HB2 := Lib.hid (belowThen HB1.out hb2)
    clear hb2 c0 c1 c2 c3
    by_cases hlen : 512 < (bytesN x).length
    · have HL := Lib.hid hlen
      go_wp2
      go_ret2
      exact ⟨by simp [putN, HM.out, HL.out, vs], HB2.out⟩
    · have HL := Lib.hid hlen
      have hzl : ∀ n, (zeros n).length = n := fun n => by simp [zeros]
      go_wp2_with (go_at_call 47; refine (repeat_zero _ (by omega) (by omega) _).mono ?_; rintro e w3 ⟨rfl, hb3⟩)
      go_ret2
      refine ⟨?_, belowThen HB2.out hb3⟩
      simp only [putN, HM.out, HL.out, padN, zeros, vs, if_false, Bool.true_eq_false, bytes_append]; rfl

end Go.Proofs.YtobmnnihmbdfjaaGreat
