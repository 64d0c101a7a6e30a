/- slices.Insert of one cell. -/
import Derived.Test.YtobmnnihmbdfjaaGreatDel
set_option linter.all false
namespace Go.Proofs.YtobmnnihmbdfjaaGreat
open Go.RowKit

def insC (l : List CellM) (i : Nat) (c : CellM) : List CellM := l.take i ++ c :: l.drop i
theorem insC_len (l : List CellM) (i : Nat) (c : CellM) (hi : i ≤ l.length) : (insC l i c).length = l.length + 1 := by
  simp [insC]; omega
theorem insC_get (l : List CellM) (i : Nat) (c : CellM) (hi : i ≤ l.length) : ∀ q d, (insC l i c)[q]? = some d → (q < i ∧ l[q]? = some d) ∨ (q = i ∧ d = c) ∨ (i < q ∧ l[q - 1]? = some d) := by
  intro q d h
  unfold insC at h
  rcases Nat.lt_trichotomy q i with k | k | k
  · rw [List.getElem?_append_left (by simp; omega), List.getElem?_take, if_pos k] at h; exact .inl ⟨k, h⟩
  · subst k
    rw [List.getElem?_append_right (by simp; omega), List.length_take, Nat.min_eq_left hi, Nat.sub_self] at h
    exact .inr (.inl ⟨rfl, by simpa using h.symm⟩)
  · rw [List.getElem?_append_right (by simp; omega), List.length_take, Nat.min_eq_left hi] at h
    obtain ⟨j, rfl⟩ : ∃ j, q = i + 1 + j := ⟨q - i - 1, by omega⟩
    rw [show i + 1 + j - i = j + 1 by omega, List.getElem?_cons_succ, List.getElem?_drop] at h
    exact .inr (.inr ⟨by omega, by rw [show i + 1 + j - 1 = i + j by omega]; exact h⟩)

def InsPost (B : Nat) (v : Value) (l : List CellM) (i : Nat) (c : CellM) (w : World) (e : Ending) (w' : World) : Prop :=
  ∃ v', e = .returned v' ∧ CRow w' B v' (insC l i c) ∧ Chg (rowB v) w w'
abbrev cellO (c : CellM) : Obj := .cells #[vs c.key, .int .i64 c.size, vs c.loc, .int .i64 c.page] 144

theorem one_cell (c : CellM) : ∀ u ∈ cellCells c, u.oneCell' = true := by
  intro u hu
  simp only [cellCells, List.mem_cons, List.not_mem_nil, or_false] at hu
  rcases hu with rfl | rfl | rfl | rfl <;> rfl

set_option maxRecDepth 100000 in
set_option maxHeartbeats 4000000 in
theorem sins_end (B : Nat) (v : Value) (l : List CellM) (c : CellM) (vb : Nat) (w : World) (h : CRow w B v l) (hBw : B ≤ w.heap.size) (hv : w.heap[vb]? = some (cellO c)) (hl : l.length ≤ 100000) :
    Calls Tryz.prog 74 #[v, .int .i64 l.length, .slice (some ⟨vb, 0, none⟩) 1 1] w (InsPost B v l l.length c w) := by
  obtain ⟨i0, hi0, hz0, hz1, hz2⟩ := info_parts info144
  have H := Lib.hid h
  have HV := Lib.hid hv
  have hins : insC l l.length c = l ++ [c] := by simp [insC]
  have HINS := Lib.hid hins
  rcases crow_get h with ⟨rfl, rfl⟩ | ⟨g, cap, cur, rfl, hB, hh, hn, hm, hs, hc⟩
  · clear h hv hins
    go_enter Tryz.func74, Tryz.ntmps74
    go_wp2_with (at_builtin; refine wpList_append_own _ rfl _ _ 148 rfl B 144 i0 _ 4 48 Tryz.underlying148 hi0 hz0 hz1 hz2 rfl (by decide) _ _ _ rfl H.out ⟨vb, 0, none⟩ 1 1 (cellCells c) rfl rfl (cells_one _ _ _ HV.out) (one_cell c) (by simp [maxLen]) (by simp) hBw ?_)
    intro v' w1 hown hgrow hnil
    have HO : Hid (CRow w1 B v' ([] ++ [c])) := Lib.hid (by simpa [CRow] using hown)
    have HG := Lib.hid (grown_chg hgrow)
    clear hown hgrow hnil
    go_wp2
    go_ret
    exact ⟨v', rfl, by rw [← HINS.out] at HO; exact HO.out, HG.out⟩
  · obtain ⟨n, hnn⟩ : ∃ n, n = l.length := ⟨_, rfl⟩
    rw [← hnn] at hn hl ⊢
    have hm' : cap ≤ 9223372036854775807 := by simpa [maxLen] using hm
    have HNN := Lib.hid hnn
    clear h hv hins hh hc hs hnn
    have H2 : Hid (w.ownsRow B 144 4 (.slice (some ⟨g, 0, none⟩) n cap) n (l.flatMap cellCells)) := Lib.hid (by have := H.out; unfold CRow at this; rwa [← HNN.out] at this)
    clear H
    rcases Nat.lt_or_ge n cap with hk | hk
    · have hb4 : ¬ (cap = n) := by omega
      go_enter Tryz.func74, Tryz.ntmps74
      go_wp2_with (at_builtin; refine wpList_append_own _ rfl _ _ 148 rfl B 144 i0 _ 4 48 Tryz.underlying148 hi0 hz0 hz1 hz2 rfl (by decide) _ _ _ rfl H2.out ⟨vb, 0, none⟩ 1 1 (cellCells c) rfl rfl (cells_one _ _ _ HV.out) (one_cell c) (by simp only [maxLen]; omega) (by omega) hBw ?_)
      intro v' w1 hown hgrow hnil
      have HO : Hid (CRow w1 B v' (l ++ [c])) := Lib.hid (by rw [HNN.out] at hown; exact crow_snoc hown)
      have HG := Lib.hid (grown_chg hgrow)
      clear hown hgrow hnil
      go_wp2
      go_ret
      exact ⟨v', rfl, by rw [HNN.out, HINS.out]; exact HO.out, HG.out⟩
    · obtain rfl : cap = n := by omega
      clear hk
      go_enter Tryz.func74, Tryz.ntmps74
      go_wp2_with (at_builtin; refine wpList_append_own _ rfl _ _ 148 rfl B 144 i0 _ 4 48 Tryz.underlying148 hi0 hz0 hz1 hz2 rfl (by decide) _ _ _ rfl H2.out ⟨vb, 0, none⟩ 1 1 (cellCells c) rfl rfl (cells_one _ _ _ HV.out) (one_cell c) (by simp only [maxLen]; omega) (by omega) hBw ?_)
      intro v' w1 hown hgrow hnil
      have HO : Hid (CRow w1 B v' (l ++ [c])) := Lib.hid (by rw [HNN.out] at hown; exact crow_snoc hown)
      have HG := Lib.hid (grown_chg hgrow)
      clear hown hgrow hnil
      go_wp2
      go_ret
      exact ⟨v', rfl, by rw [HNN.out, HINS.out]; exact HO.out, HG.out⟩

set_option maxRecDepth 100000 in
set_option maxHeartbeats 4000000 in
theorem sins_shift (B : Nat) (g cap : Nat) (l : List CellM) (i : Nat) (c : CellM) (vb : Nat) (w : World) (h : CRow w B (.slice (some ⟨g, 0, none⟩) l.length cap) l) (hv : w.heap[vb]? = some (cellO c)) (hvb : vb ≠ g) (hi : i < l.length) (hroom : l.length + 1 ≤ cap) (hl : l.length ≤ 100000) :
    Calls Tryz.prog 74 #[.slice (some ⟨g, 0, none⟩) l.length cap, .int .i64 i, .slice (some ⟨vb, 0, none⟩) 1 1] w (InsPost B (.slice (some ⟨g, 0, none⟩) l.length cap) l i c w) := by
  rcases crow_get h with ⟨h0, -⟩ | ⟨g', cap', cur, he, hB, hh, hn, hm, hs, hc⟩
  · simp at h0
  simp only [Value.slice.injEq, Option.some.injEq, Addr.mk.injEq, and_true, true_and] at he
  obtain ⟨rfl, rfl⟩ := he
  have hm' : cap ≤ 9223372036854775807 := by simpa [maxLen] using hm
  obtain ⟨n, hnn⟩ : ∃ n, n = l.length := ⟨_, rfl⟩
  have HNN := Lib.hid hnn
  rw [← hnn] at hn hi hl hroom ⊢
  clear hnn
  have hsz : (Tryz.prog.info? 144).map (·.size) = some 4 := by kernel_rfl
  obtain ⟨news, hnews⟩ : ∃ news, news = (l.drop i).flatMap cellCells := ⟨_, rfl⟩
  have hlen : news.length = (n - i) * 4 := by rw [hnews, flat_len4, List.length_drop, HNN.out]
  have hsrc : ∀ t u, news[t]? = some u → w.cell? ⟨g, i * 4 + t, none⟩ = some u := by
    intro t u hu
    rw [cellAt hh]
    have ht : t < (n - i) * 4 := by rw [← hlen]; exact (List.getElem?_eq_some_iff.1 hu).1
    obtain ⟨d, hd⟩ : ∃ d, (l.drop i)[t / 4]? = some d := ⟨_, List.getElem?_eq_getElem (by rw [List.length_drop, ← HNN.out]; omega)⟩
    have h1 := flat_get (l.drop i) (t / 4) d hd (t % 4) (by omega)
    rw [show t / 4 * 4 + t % 4 = t by omega, ← hnews, hu] at h1
    rw [List.getElem?_drop] at hd
    have h2 := hc (i + t / 4) d hd (t % 4) (by omega)
    rw [show i * 4 + t = (i + t / 4) * 4 + t % 4 by omega, h2]
    exact h1.symm
  have hov : ∀ lb cb, (callFunc 145 #[.slice (some ⟨vb, 0, none⟩) 1 1, .slice (some ⟨g, (i + 1) * 4, none⟩) lb cb]).run Tryz.prog w = .ok (.value (.bool false)) w := fun lb cb => by
    have hsa : w.shape? vb = some (144, 4) := by simp [World.shape?, hv]
    have hsb : w.shape? g = some (144, cap * 4) := by simp [World.shape?, hh, hs]
    rw [run_callFunc_extern Tryz.func145 (by kernel_rfl) (by kernel_rfl) (by kernel_rfl) (e := Extern.SlicesOverlaps.overlaps #[148, 148] #[4]) (by kernel_rfl),
      Lib.run_overlaps_apart w 148 4 144 Tryz.underlying148 4 (fun _ => by kernel_rfl) ⟨vb, 0, none⟩ ⟨g, (i + 1) * 4, none⟩ 1 1 lb cb hvb 144 144 4 (cap * 4) hsa hsb (by omega) (freeAt hv 0) (freeAt hv 4)]
    rfl
  obtain ⟨cur1, k1, k2, k3⟩ := heap_setCells g 144 news ((i + 1) * 4) w.drew cur hh
  obtain ⟨W1, hW1⟩ : ∃ W1, W1 = w.drew.setCells g ((i + 1) * 4) news := ⟨_, rfl⟩
  have hC1 : Chg [g] w W1 := by rw [hW1]; exact ((Chg.refl [g] w).drew).trans (chg_setCells g _ _ _)
  rw [← hW1] at k1
  have hv1 : W1.heap[vb]? = some (cellO c) := hC1.get hv (by simpa using hvb)
  have hcp1 : ∀ ty dc sc, (Builtin.copy_ #[148, 148] ty #[.slice (some ⟨g, (i + 1) * 4, none⟩) (n - i) dc, .slice (some ⟨g, i * 4, none⟩) (n + 1 - i) sc]).run Tryz.prog w.drew = .ok (goInt (n - i : Nat)) W1 := fun ty dc sc => by
    rw [hW1]
    exact run_copy4 w.drew 148 148 ty 144 g ((i + 1) * 4) _ dc ⟨g, i * 4, none⟩ _ sc (n - i) news Tryz.underlying148 hsz (by simp only [Nat.min_def]; split <;> omega) hlen
      (fun j u hj => by rw [Addr.add_lit]; exact hsrc j u hj)
      (fun j hj => by show (w.cell? _).isSome = true; rw [cellAt hh, Array.getElem?_eq_getElem (by omega)]; rfl) (fun j _ => freeAt (w := w) hh _) (by rw [hnews]; exact cell_one _)
  obtain ⟨cur2, j1, j2, j3⟩ := heap_setCells g 144 (cellCells c) (i * 4) W1 cur1 k1
  have hcp2 : ∀ ty dc, (Builtin.copy_ #[148, 148] ty #[.slice (some ⟨g, i * 4, none⟩) (n + 1 - i) dc, .slice (some ⟨vb, 0, none⟩) 1 1]).run Tryz.prog W1 = .ok (goInt (1 : Nat)) (W1.setCells g (i * 4) (cellCells c)) := fun ty dc =>
    run_copy4 W1 148 148 ty 144 g (i * 4) _ dc ⟨vb, 0, none⟩ 1 1 1 (cellCells c) Tryz.underlying148 hsz (by simp only [Nat.min_def]; split <;> omega) rfl
      (cells_one _ _ _ hv1) (fun j hj => by have : j < 4 := by simpa [cellCells] using hj
                                            rw [cellAt k1, Array.getElem?_eq_getElem (by omega)]; rfl) (fun j _ => freeAt k1 _) (one_cell c)
  have hC2 : Chg [g] w (W1.setCells g (i * 4) (cellCells c)) := hC1.trans (chg_setCells g _ _ _)
  have HROW : Hid (CRow (W1.setCells g (i * 4) (cellCells c)) B (.slice (some ⟨g, 0, none⟩) (n + 1) cap) (insC l i c)) := by
    have hel : (insC l i c).length = n + 1 := by rw [insC_len _ _ _ (by rw [← HNN.out]; omega), HNN.out]
    have := crow_of (w := W1.setCells g (i * 4) (cellCells c)) (B := B) (cap := cap) (l := insC l i c) hB j1 (by omega) hm (by rw [j2, k2, hs]) (fun q d hq r hr => by
      have hqn : q < n + 1 := by rw [← hel]; exact (List.getElem?_eq_some_iff.1 hq).1
      have hc4 : (cellCells c).length = 4 := rfl
      rw [j3, hc4]
      rcases insC_get l i c (by rw [← HNN.out]; omega) q d hq with ⟨hlt, h2⟩ | ⟨rfl, rfl⟩ | ⟨hgt, h2⟩
      · rw [if_neg (by omega), k3, if_neg (by omega)]
        exact hc q d h2 r hr
      · rw [if_pos (by omega), show q * 4 + r - q * 4 = r by omega]
      · rw [if_neg (by omega), k3, if_pos ⟨by omega, by rw [hlen]; omega, by omega⟩, hnews]
        have h3 : (l.drop i)[q - 1 - i]? = some d := by rw [List.getElem?_drop, show i + (q - 1 - i) = q - 1 by omega]; exact h2
        rw [show q * 4 + r - (i + 1) * 4 = (q - 1 - i) * 4 + r by omega]
        exact flat_get _ _ _ h3 r hr)
    rw [hel] at this
    exact Lib.hid this
  have HC2 := Lib.hid hC2
  have hz2' : ((i : Int) == (n : Int)) = false := by simp; omega
  have hw1 : IntKind.i64.wrap ((i : Int) + 1) = (i : Int) + 1 := by rw [IntKind.wrap_i64]; omega
  have hb1 : (0 : Int) ≤ (i : Int) + 1 := by omega
  have hin : i ≤ n := by omega
  have htn : ((i : Int) + 1).toNat = i + 1 := by omega
  have hb2 : ¬ (cap = i + 1) := by omega
  have hb3 : (i : Int) ≤ (n : Int) + 1 := by omega
  have hb4 : ¬ (cap = i) := by omega
  have hb5 : (i : Int) ≤ (n : Int) := by omega
  have hb6 : ¬ ((cap : Int) < (n : Int) + 1) := by omega
  have hb7 : (i : Int) + 1 ≤ (n : Int) + 1 := by omega
  clear hsrc hlen hnews hh hc k1 k2 k3 hC1 j1 j2 j3 hC2 h hW1 hv hv1 hs
  go_enter Tryz.func74, Tryz.ntmps74
  go_wp2_with (simp only [hov])
  go_region_law (refine step_copy_runI rfl _ _ 148 148 rfl _ _ (by simp [Act.eval, Act.put]) (by simp [Act.eval, Act.put]) (hcp1 _ _ _) ?_)
  go_wp2_with (at_builtin; refine wpList_copy_runI _ rfl _ _ 148 148 rfl _ _ rfl rfl (hcp2 _ _) ?_)
  go_ret
  exact ⟨_, rfl, HROW.out, by simpa [rowB, Value.ownBlock] using HC2.out⟩

end Go.Proofs.YtobmnnihmbdfjaaGreat
