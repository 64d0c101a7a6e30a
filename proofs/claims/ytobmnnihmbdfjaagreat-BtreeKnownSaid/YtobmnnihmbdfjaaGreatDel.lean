/- slices.Delete of one cell. -/
import Derived.Test.YtobmnnihmbdfjaaGreatIns0
set_option linter.all false
namespace Go.Proofs.YtobmnnihmbdfjaaGreat
open Go.RowKit

theorem zero144 (w : World) : (zeroValue 144).run Tryz.prog w = .ok (.agg #[.string { data := #[] }, .int .i64 0, .string { data := #[] }, .int .i64 0]) w := by kernel_rfl

def DelPost (B : Nat) (v : Value) (l : List CellM) (i : Nat) (w : World) (e : Ending) (w' : World) : Prop :=
  ∃ v', e = .returned v' ∧ CRow w' B v' (l.eraseIdx i) ∧ Chg (rowB v) w w' ∧ rowB v' = rowB v

theorem flat_eraseIdx (l : List CellM) (i : Nat) : ∀ q c, (l.eraseIdx i)[q]? = some c → (q < i ∧ l[q]? = some c) ∨ (i ≤ q ∧ l[q + 1]? = some c) := by
  intro q c h
  rw [List.getElem?_eraseIdx] at h
  split at h
  · exact .inl ⟨by assumption, h⟩
  · exact .inr ⟨by omega, h⟩

set_option maxRecDepth 100000 in
set_option maxHeartbeats 4000000 in
theorem sdel (B : Nat) (v : Value) (l : List CellM) (i : Nat) (w : World) (h : CRow w B v l) (hi : i < l.length) (hl : l.length ≤ 100000) :
    Calls Tryz.prog 73 #[v, .int .i64 i, .int .i64 ((i : Int) + 1)] w (DelPost B v l i w) := by
  rcases crow_get h with ⟨-, h0⟩ | ⟨g, cap, cur, rfl, hB, hh, hn, hm, hs, hc⟩
  · rw [h0] at hi; simp at hi
  obtain ⟨i0, hi0, hz0, hz1, hz2⟩ := info_parts info144
  have hm' : cap ≤ 9223372036854775807 := by simpa [maxLen] using hm
  obtain ⟨n, hnn⟩ : ∃ n, n = l.length := ⟨_, rfl⟩
  have HNN := Lib.hid hnn
  rw [← hnn] at hn hi hl ⊢
  clear hnn
  -- what is moved
  obtain ⟨news, hnews⟩ : ∃ news, news = (l.drop (i + 1)).flatMap cellCells := ⟨_, rfl⟩
  have hlen : news.length = (n - (i + 1)) * 4 := by rw [hnews, flat_len4, List.length_drop, HNN.out]
  have hcell : ∀ q, q < cap * 4 → (w.cell? ⟨g, q, none⟩).isSome = true := fun q hq => by rw [cellAt hh, Array.getElem?_eq_getElem (by omega)]; rfl
  have hsrc : ∀ t u, news[t]? = some u → w.cell? ⟨g, (i + 1) * 4 + t, none⟩ = some u := by
    intro t u hu
    rw [cellAt hh]
    have ht : t < (n - (i + 1)) * 4 := by rw [← hlen]; exact (List.getElem?_eq_some_iff.1 hu).1
    obtain ⟨c, hc0⟩ : ∃ c, (l.drop (i + 1))[t / 4]? = some c := ⟨_, List.getElem?_eq_getElem (by rw [List.length_drop, ← HNN.out]; omega)⟩
    have h1 := flat_get (l.drop (i + 1)) (t / 4) c hc0 (t % 4) (by omega)
    rw [show t / 4 * 4 + t % 4 = t by omega, ← hnews, hu] at h1
    rw [List.getElem?_drop] at hc0
    have h2 := hc (i + 1 + t / 4) c hc0 (t % 4) (by omega)
    rw [show (i + 1) * 4 + t = (i + 1 + t / 4) * 4 + t % 4 by omega, h2]
    exact h1.symm
  obtain ⟨A, hA, hsA⟩ : ∃ A : Addr, (if cap = i + 1 then some (⟨g, 0, none⟩ : Addr) else some ⟨g, (i + 1) * 4, none⟩) = some A ∧ Hid (∀ t u, news[t]? = some u → w.drew.cell? (A.add t) = some u) := by
    by_cases k : cap = i + 1
    · refine ⟨⟨g, 0, none⟩, by simp [k], Lib.hid fun t u hu => ?_⟩
      have h0 : news.length = 0 := by rw [hlen]; omega
      rw [List.length_eq_zero_iff.1 h0] at hu
      simp at hu
    · refine ⟨⟨g, (i + 1) * 4, none⟩, by simp [k], Lib.hid fun t u hu => ?_⟩
      rw [Addr.add_lit]
      exact hsrc t u hu
  have s1 : Hid (news.length = (n - (i + 1)) * 4) := Lib.hid hlen
  have s2 : Hid (∀ u ∈ news, u.oneCell' = true) := Lib.hid (by rw [hnews]; exact cell_one _)
  have s3 : Hid (∀ t, t < news.length → (w.drew.cell? ⟨g, 0 + i * 4 + t, none⟩).isSome = true ∧ w.drew.frozen? ⟨g, 0 + i * 4 + t, none⟩ = false) := by
    refine Lib.hid fun t ht => ?_
    rw [hlen] at ht
    exact ⟨hcell _ (by omega), freeAt (w := w) hh _⟩
  obtain ⟨cur1, k1, k2, k3⟩ := heap_setCells g 144 news (0 + i * 4) w.drew cur hh
  obtain ⟨W1, hW1⟩ : ∃ W1, W1 = w.drew.setCells g (0 + i * 4) news := ⟨_, rfl⟩
  have hC1 : Chg [g] w W1 := by rw [hW1]; exact ((Chg.refl [g] w).drew).trans (chg_setCells g _ _ _)
  rw [← hW1] at k1
  have hcl : ∀ ty c, (Builtin.clear_ #[148] ty #[.slice (some ⟨g, (n - 1) * 4, none⟩) 1 c]).run Tryz.prog W1 = .ok (.tuple #[]) (W1.setCells g ((n - 1) * 4) zero4) := fun ty c =>
    run_clear4 W1 148 144 ty _ Tryz.underlying148 zero144 rfl g _ c (fun j hj => by rw [cellAt k1, Array.getElem?_eq_getElem (by omega)]; rfl) (fun j _ => freeAt k1 _)
  obtain ⟨cur2, j1, j2, j3⟩ := heap_setCells g 144 zero4 ((n - 1) * 4) W1 cur1 k1
  have hC2 : Chg [g] w (W1.setCells g ((n - 1) * 4) zero4) := hC1.trans (chg_setCells g _ _ _)
  have HROW : Hid (CRow (W1.setCells g ((n - 1) * 4) zero4) B (.slice (some ⟨g, 0, none⟩) (n - 1) cap) (l.eraseIdx i)) := by
    have hel : (l.eraseIdx i).length = n - 1 := by rw [List.length_eraseIdx, if_pos (by rw [← HNN.out]; exact hi), HNN.out]
    have := crow_of (w := W1.setCells g ((n - 1) * 4) zero4) (B := B) (cap := cap) (l := l.eraseIdx i) hB j1 (by omega) hm (by rw [j2, k2, hs]) (fun q c hq r hr => by
      have hqn : q < n - 1 := by rw [← hel]; exact (List.getElem?_eq_some_iff.1 hq).1
      rw [j3, if_neg (by omega), k3]
      rcases flat_eraseIdx l i q c hq with ⟨hlt, h2⟩ | ⟨hge, h2⟩
      · rw [if_neg (by omega)]
        exact hc q c h2 r hr
      · have hlen2 : q * 4 + r < 0 + i * 4 + news.length := by rw [hlen]; omega
        rw [if_pos ⟨by omega, hlen2, by omega⟩, hnews]
        have h3 : (l.drop (i + 1))[q - i]? = some c := by rw [List.getElem?_drop, show i + 1 + (q - i) = q + 1 by omega]; exact h2
        rw [show q * 4 + r - (0 + i * 4) = (q - i) * 4 + r by omega]
        exact flat_get _ _ _ h3 r hr)
    rw [hel] at this
    exact Lib.hid this
  have HC2 := Lib.hid hC2
  have HW := Lib.hid hW1
  have hcl2 : ∀ ty c, (Builtin.clear_ #[148] ty #[.slice (some ⟨g, (i + (n - (i + 1))) * 4, none⟩) (n - (i + (n - (i + 1)))) c]).run Tryz.prog W1 = .ok (.tuple #[]) (W1.setCells g ((n - 1) * 4) zero4) := fun ty c => by
    rw [show i + (n - (i + 1)) = n - 1 by omega, show n - (n - 1) = 1 by omega]; exact hcl ty c
  have e1 : (i : Int) ≤ (n : Int) := by omega
  have hic : i ≤ cap := by omega
  have hjc : i + 1 ≤ cap := by omega
  have hic2 : (i : Int) ≤ (cap : Int) := by omega
  have hjc2 : (i : Int) + 1 ≤ (cap : Int) := by omega
  have hjn : (i : Int) + 1 ≤ (n : Int) := by omega
  have hne : ((i : Int) == (i : Int) + 1) = false := by simp; omega
  have hb1 : (0 : Int) ≤ (i : Int) + 1 := by omega
  have htn : ((i : Int) + 1).toNat = i + 1 := by omega
  have hw1 : IntKind.i64.wrap ((i : Int) + 1) = (i : Int) + 1 := by rw [IntKind.wrap_i64]; omega
  clear hsrc hcell hlen hnews hh hc k1 k2 k3 hC1 hcl j1 j2 j3 hC2 hW1 h
  go_enter Tryz.func73, Tryz.ntmps73
  go_wp2_with fail
  go_region_law (refine step_append_room rfl (.tmp 22) (.tmp 25) 148 rfl 144 i0 4 Tryz.underlying148 hi0 hz1 g 0 i cap (by simp [Act.eval, Act.put]) A (n - (i + 1)) (cap - (i + 1)) news (by simp [Act.eval, Act.put]) s1.out hsA.out s2.out (by omega) s3.out ?_; rw [← HW.out])
  go_wp2
  go_ret
  exact ⟨_, rfl, by rw [show i + (n - (i + 1)) = n - 1 by omega]; exact HROW.out, by simpa [rowB, Value.ownBlock] using HC2.out, rfl⟩

end Go.Proofs.YtobmnnihmbdfjaaGreat
