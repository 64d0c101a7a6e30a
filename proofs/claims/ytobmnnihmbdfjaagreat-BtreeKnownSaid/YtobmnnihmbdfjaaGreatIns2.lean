/- slices.Insert of one cell where there is no room; and whole. -/
import Derived.Test.YtobmnnihmbdfjaaGreatIns
set_option linter.all false
namespace Go.Proofs.YtobmnnihmbdfjaaGreat
open Go.RowKit

theorem zeroCells_size (z : Array Value) (n : Nat) : (Builtin.zeroCells z n).size = n * z.size := by simp [Builtin.zeroCells]

set_option maxRecDepth 100000 in
set_option maxHeartbeats 4000000 in
theorem sins_grow (B : Nat) (g cap : Nat) (l : List CellM) (i : Nat) (c : CellM) (vb : Nat) (w : World) (h : CRow w B (.slice (some ⟨g, 0, none⟩) l.length cap) l) (hBw : B ≤ w.heap.size) (hv : w.heap[vb]? = some (cellO c)) (hi : i < l.length) (hroom : cap < l.length + 1) (hl : l.length ≤ 100000) :
    Calls Tryz.prog 74 #[.slice (some ⟨g, 0, none⟩) l.length cap, .int .i64 i, .slice (some ⟨vb, 0, none⟩) 1 1] w (InsPost B (.slice (some ⟨g, 0, none⟩) l.length cap) l i c w) := by
  rcases crow_get h with ⟨h0, -⟩ | ⟨g', cap', cur, he, hB, hh, hn, hm, hs, hc⟩
  · simp at h0
  simp only [Value.slice.injEq, Option.some.injEq, Addr.mk.injEq, and_true, true_and] at he
  obtain ⟨rfl, rfl⟩ := he
  obtain ⟨n, hnn⟩ : ∃ n, n = l.length := ⟨_, rfl⟩
  have HNN := Lib.hid hnn
  rw [← hnn] at hn hi hl hroom ⊢
  clear hnn
  obtain rfl : cap = n := by omega
  obtain ⟨i0, hi0, hz0, hz1, hz2⟩ := info_parts info144
  have hsz : (Tryz.prog.info? 144).map (·.size) = some 4 := by kernel_rfl
  have hgw : g < w.heap.size := lt_of_block hh
  have hvw : vb < w.heap.size := lt_of_block hv
  obtain ⟨olds, holds⟩ : ∃ olds, olds = (l.take i).flatMap cellCells := ⟨_, rfl⟩
  have holen : olds.length = i * 4 := by rw [holds, flat_len4, List.length_take, Nat.min_eq_left (by rw [← HNN.out]; omega)]
  obtain ⟨news, hnews⟩ : ∃ news, news = (l.drop i).flatMap cellCells := ⟨_, rfl⟩
  have hlen : news.length = (cap - i) * 4 := by rw [hnews, flat_len4, List.length_drop, HNN.out]
  have hsrcO : ∀ t u, olds[t]? = some u → w.cell? ⟨g, 0 + t, none⟩ = some u := by
    intro t u hu
    rw [cellAt hh]
    have ht : t < i * 4 := by rw [← holen]; exact (List.getElem?_eq_some_iff.1 hu).1
    obtain ⟨d, hd⟩ : ∃ d, (l.take i)[t / 4]? = some d := ⟨_, List.getElem?_eq_getElem (by rw [List.length_take, Nat.min_eq_left (by rw [← HNN.out]; omega)]; omega)⟩
    have h1 := flat_get (l.take i) (t / 4) d hd (t % 4) (by omega)
    rw [show t / 4 * 4 + t % 4 = t by omega, ← holds, hu] at h1
    rw [List.getElem?_take, if_pos (by omega)] at hd
    have h2 := hc (t / 4) d hd (t % 4) (by omega)
    rw [show 0 + t = t / 4 * 4 + t % 4 by omega, h2]
    exact h1.symm
  have hsrc : ∀ t u, news[t]? = some u → w.cell? ⟨g, i * 4 + t, none⟩ = some u := by
    intro t u hu
    rw [cellAt hh]
    have ht : t < (cap - i) * 4 := by rw [← hlen]; exact (List.getElem?_eq_some_iff.1 hu).1
    obtain ⟨d, hd⟩ : ∃ d, (l.drop i)[t / 4]? = some d := ⟨_, List.getElem?_eq_getElem (by rw [List.length_drop, ← HNN.out]; omega)⟩
    have h1 := flat_get (l.drop i) (t / 4) d hd (t % 4) (by omega)
    rw [show t / 4 * 4 + t % 4 = t by omega, ← hnews, hu] at h1
    rw [List.getElem?_drop] at hd
    have h2 := hc (i + t / 4) d hd (t % 4) (by omega)
    rw [show i * 4 + t = (i + t / 4) * 4 + t % 4 by omega, h2]
    exact h1.symm
  have hold : (Builtin.firstCells i0.size i (.slice (some ⟨g, 0, none⟩) i cap)).run Tryz.prog w.drew = .ok olds.toArray w.drew := by
    rw [hz1]
    exact run_firstCells_some w.drew 4 i ⟨g, 0, none⟩ i cap olds holen (fun j u hj => by rw [Addr.add_lit]; exact hsrcO j u hj)
  obtain ⟨G, hG⟩ : ∃ G, G = grownCap w (cap + 1) cap 144 := ⟨_, rfl⟩
  obtain ⟨ROW, hROW⟩ : ∃ ROW : Array Value, ROW = olds.toArray ++ Builtin.zeroCells (Value.agg #[.string { data := #[] }, .int .i64 0, .string { data := #[] }, .int .i64 0]).cells (cap + 1 - i) ++ Builtin.zeroCells (Value.agg #[.string { data := #[] }, .int .i64 0, .string { data := #[] }, .int .i64 0]).cells (G - (cap + 1)) := ⟨_, rfl⟩
  have hrz : ∀ ty, (Builtin.append_ #[148, 3] ty #[.slice (some ⟨g, 0, none⟩) i cap, .int .i64 ((cap : Int) + 1 - (i : Int))]).run Tryz.prog w = .ok (.slice (some ⟨w.heap.size, 0, none⟩) (cap + 1) G) (w.drew.alloc (.cells ROW 144)) := fun ty => by
    have h := Lib.run_append_grow_zeros w 148 3 ty 144 i0 _ .i64 .i64 Tryz.underlying148 Tryz.underlying3 hi0 hz0 (some ⟨g, 0, none⟩) i cap olds hold (cap + 1 - i) (by omega) (by rw [hz1]; decide) (by omega) (by omega) (by rw [hz2]; omega) (by rw [hz2, show i + (cap + 1 - i) = cap + 1 by omega]; exact growslice_fits (by omega) (by omega))
    rw [show i + (cap + 1 - i) = cap + 1 by omega, ← hG, ← hROW] at h
    rw [show (cap : Int) + 1 - (i : Int) = ((cap + 1 - i : Nat) : Int) by omega]
    exact h
  have hGn : cap + 1 ≤ G := by rw [hG]; exact grownCap_ge w _ _ _
  have hGm : G ≤ maxLen := by rw [hG]; exact grownCap_le_maxLen w (cap + 1) cap 144 (by simp only [maxLen]; omega)
  have hGm' : G ≤ 9223372036854775807 := by simpa [maxLen] using hGm
  have hRs : ROW.size = G * 4 := by
    have e4 : (Value.agg #[.string { data := #[] }, .int .i64 0, .string { data := #[] }, .int .i64 0]).cells.size = 4 := rfl
    rw [hROW, Array.size_append, Array.size_append, zeroCells_size, zeroCells_size, e4, List.size_toArray, holen]
    omega
  have hRo : ∀ j, j < i * 4 → ROW[j]? = olds[j]? := by
    intro j hj
    rw [hROW, Array.getElem?_append_left (by rw [Array.size_append, List.size_toArray]; omega), Array.getElem?_append_left (by rw [List.size_toArray]; omega)]
    simp
  obtain ⟨N, hN⟩ : ∃ N, N = w.heap.size := ⟨_, rfl⟩
  have hW1 : ∀ W : World, W.heap = (w.alloc (.cells ROW 144)).heap → W.heap[N]? = some (.cells ROW 144 (0, 0)) ∧ W.heap[vb]? = some (cellO c) ∧ W.heap[g]? = some (.cells cur 144 (0, 0)) := by
    intro W hW
    rw [hW, hN]
    exact ⟨heap_alloc_new w _, heapOld hv _, heapOld hh _⟩
  have hcpA : ∀ W : World, W.heap = (w.alloc (.cells ROW 144)).heap → ∀ ty dc, (Builtin.copy_ #[148, 148] ty #[.slice (some ⟨N, i * 4, none⟩) (cap + 1 - i) dc, .slice (some ⟨vb, 0, none⟩) 1 1]).run Tryz.prog W = .ok (goInt (1 : Nat)) (W.setCells N (i * 4) (cellCells c)) := by
    intro W hW ty dc
    obtain ⟨q1, q2, q3⟩ := hW1 W hW
    exact run_copy4 W 148 148 ty 144 N (i * 4) _ dc ⟨vb, 0, none⟩ 1 1 1 (cellCells c) Tryz.underlying148 hsz (by simp only [Nat.min_def]; split <;> omega) rfl
      (cells_one _ _ _ q2) (fun j hj => by rw [show (cellCells c).length = 4 from rfl] at hj; rw [cellAt q1, Array.getElem?_eq_getElem (by omega)]; rfl) (fun j _ => freeAt q1 _) (one_cell c)
  have hcpB : ∀ W : World, (∃ V : World, V.heap = (w.alloc (.cells ROW 144)).heap ∧ W.heap = (V.setCells N (i * 4) (cellCells c)).heap) → ∀ ty dc sc, (Builtin.copy_ #[148, 148] ty #[.slice (some ⟨N, (i + 1) * 4, none⟩) (cap - i) dc, .slice (some ⟨g, i * 4, none⟩) (cap - i) sc]).run Tryz.prog W = .ok (goInt (cap - i : Nat)) (W.setCells N ((i + 1) * 4) news) := by
    rintro W ⟨V, hV, hW⟩ ty dc sc
    obtain ⟨q1, q2, q3⟩ := hW1 V hV
    obtain ⟨cur1, k1, k2, k3⟩ := heap_setCells N 144 (cellCells c) (i * 4) V ROW q1
    have q4 := (chg_setCells N (cellCells c) (i * 4) V).get q3 (by simp only [List.mem_singleton]; omega)
    rw [← hW] at k1 q4
    exact run_copy4 W 148 148 ty 144 N ((i + 1) * 4) _ dc ⟨g, i * 4, none⟩ _ sc (cap - i) news Tryz.underlying148 hsz (by simp only [Nat.min_def]; split <;> omega) hlen
      (fun j u hj => by
        rw [Addr.add_lit, cellAt q4]
        have := hsrc j u hj
        rwa [cellAt hh] at this) (fun j hj => by rw [cellAt k1, Array.getElem?_eq_getElem (by omega)]; rfl) (fun j _ => freeAt k1 _) (by rw [hnews]; exact cell_one _)
  have HROW : Hid (∀ W : World, (∃ V U : World, V.heap = (w.alloc (.cells ROW 144)).heap ∧ U.heap = (V.setCells N (i * 4) (cellCells c)).heap ∧ W = U.setCells N ((i + 1) * 4) news) → CRow W B (.slice (some ⟨N, 0, none⟩) (cap + 1) G) (insC l i c)) := by
    refine Lib.hid ?_
    rintro W ⟨V, U, hV, hU, rfl⟩
    obtain ⟨q1, q2, q3⟩ := hW1 V hV
    obtain ⟨cur1, k1, k2, k3⟩ := heap_setCells N 144 (cellCells c) (i * 4) V ROW q1
    rw [← hU] at k1
    obtain ⟨cur2, j1, j2, j3⟩ := heap_setCells N 144 news ((i + 1) * 4) U cur1 k1
    have hel : (insC l i c).length = cap + 1 := by rw [insC_len _ _ _ (by rw [← HNN.out]; omega), HNN.out]
    have := crow_of (B := B) (cap := G) (l := insC l i c) (by rw [hN]; exact hBw) j1 (by omega) hGm (by rw [j2, k2, hRs]) (fun q d hq r hr => by
      have hqn : q < cap + 1 := by rw [← hel]; exact (List.getElem?_eq_some_iff.1 hq).1
      have hc4 : (cellCells c).length = 4 := rfl
      rw [j3, hlen]
      rcases insC_get l i c (by rw [← HNN.out]; omega) q d hq with ⟨hlt, h2⟩ | ⟨rfl, rfl⟩ | ⟨hgt, h2⟩
      · rw [if_neg (by omega), k3, hc4, if_neg (by omega), hRo _ (by omega), holds]
        exact flat_get _ _ _ (by rw [List.getElem?_take, if_pos hlt]; exact h2) r hr
      · rw [if_neg (by omega), k3, hc4, if_pos ⟨by omega, by omega, by omega⟩, show q * 4 + r - q * 4 = r by omega]
      · rw [if_pos ⟨by omega, by omega, by omega⟩, hnews]
        have h3 : (l.drop i)[q - 1 - i]? = some d := by rw [List.getElem?_drop, show i + (q - 1 - i) = q - 1 by omega]; exact h2
        rw [show q * 4 + r - (i + 1) * 4 = (q - 1 - i) * 4 + r by omega]
        exact flat_get _ _ _ h3 r hr)
    rw [hel] at this
    exact this
  have HC : Hid (Chg [g] w ((((w.alloc (.cells ROW 144)).drew.setCells N (i * 4) (cellCells c)).drew).setCells N ((i + 1) * 4) news)) := Lib.hid
    ((((((Chg.refl [g] w).alloc _).drew).after (chg_setCells N (cellCells c) (i * 4) _) (by intro k hk; simp only [List.mem_singleton] at hk; exact .inr (by omega))).drew).after (chg_setCells N news ((i + 1) * 4) _) (by intro k hk; simp only [List.mem_singleton] at hk; exact .inr (by omega)))
  have hz2' : ((i : Int) == (cap : Int)) = false := by simp; omega
  have hw1 : IntKind.i64.wrap ((i : Int) + 1) = (i : Int) + 1 := by rw [IntKind.wrap_i64]; omega
  have hb1 : (0 : Int) ≤ (i : Int) + 1 := by omega
  have htn : ((i : Int) + 1).toNat = i + 1 := by omega
  have hci : ¬ (cap = i) := by omega
  have hGi : ¬ (G = i) := by omega
  have hGim : ¬ (G = i + 1) := by omega
  have hin : i ≤ cap := by omega
  have hb5 : (i : Int) ≤ (cap : Int) := by omega
  have hb6 : (cap : Int) < (cap : Int) + 1 := by omega
  have hb7 : (i : Int) + 1 ≤ (cap : Int) + 1 := by omega
  have hb8 : (i : Int) ≤ (cap : Int) + 1 := by omega
  rw [← hN] at hrz
  have HN := Lib.hid hN
  clear hsrc hsrcO hlen holen hnews holds hh hc h hv hs hold hG hROW hRs hRo hW1 hgw hvw hN hz0 hz1 hz2 hi0 hroom
  have hcA := hcpA ((w.alloc (.cells ROW 144)).drew) rfl
  have HCB := Lib.hid (hcpB (((w.alloc (.cells ROW 144)).drew.setCells N (i * 4) (cellCells c)).drew) ⟨(w.alloc (.cells ROW 144)).drew, rfl, rfl⟩)
  clear hcpA hcpB
  go_enter Tryz.func74, Tryz.ntmps74
  go_wp2_with (at_builtin; refine Lib.wpList_append_run _ rfl _ _ 148 3 rfl _ _ rfl rfl _ _ (hrz _) ?_)
  go_region_law (refine step_copy_runI rfl _ _ 148 148 rfl (.slice (some ⟨N, (i + 1) * 4, none⟩) (cap - i) (G - (i + 1))) (.slice (some ⟨g, i * 4, none⟩) (cap - i) (cap - i)) (by simp [Act.eval, Act.put]) (by simp [Act.eval, Act.put]) (HCB.out 3 (G - (i + 1)) (cap - i)) ?_)
  go_wp2
  go_ret
  exact ⟨_, rfl, HROW.out _ ⟨(w.alloc (.cells ROW 144)).drew, ((w.alloc (.cells ROW 144)).drew.setCells N (i * 4) (cellCells c)).drew, rfl, rfl, rfl⟩, by simpa [rowB, Value.ownBlock] using HC.out⟩

theorem sins (B : Nat) (v : Value) (l : List CellM) (i : Nat) (c : CellM) (vb : Nat) (w : World) (h : CRow w B v l) (hBw : B ≤ w.heap.size) (hv : w.heap[vb]? = some (cellO c)) (hvb : vb ∉ rowB v) (hi : i ≤ l.length) (hl : l.length ≤ 100000) :
    Calls Tryz.prog 74 #[v, .int .i64 i, .slice (some ⟨vb, 0, none⟩) 1 1] w (InsPost B v l i c w) := by
  rcases Nat.lt_or_ge i l.length with k | k
  · rcases crow_get h with ⟨rfl, rfl⟩ | ⟨g, cap, cur, rfl, hB, hh, hn, hm, hs, hc⟩
    · simp at k
    · rcases Nat.lt_or_ge cap (l.length + 1) with k2 | k2
      · exact sins_grow B g cap l i c vb w h hBw hv k k2 hl
      · exact sins_shift B g cap l i c vb w h hv (by simpa [rowB, Value.ownBlock] using hvb) k k2 hl
  · obtain rfl : i = l.length := by omega
    exact sins_end B v l c vb w h hBw hv hl

end Go.Proofs.YtobmnnihmbdfjaaGreat
