/- A tree's pages: size. -/
import Derived.Test.YtobmnnihmbdfjaaGreatTree2
import Derived.Test.YtobmnnihmbdfjaaGreatIns2
set_option linter.all false
namespace Go.Proofs.YtobmnnihmbdfjaaGreat
open Go.RowKit

def cellSize (k : Int) (c : CellM) : Int := 1 + c.key.length + c.loc.length + (if k = 1 then 2 else 0) + (if 0 < c.page then 4 else 0)
def sizeC (k : Int) : List CellM → Int
  | [] => 0
  | c :: l => cellSize k c + sizeC k l
theorem sizeC_app (k : Int) (a b : List CellM) : sizeC k (a ++ b) = sizeC k a + sizeC k b := by
  induction a with
  | nil => simp [sizeC]
  | cons c l ih => simp only [List.cons_append, sizeC, ih]; omega
theorem cellSize_bd (k : Int) (c : CellM) (h : c.key.length ≤ 1000000 ∧ c.loc.length ≤ 1000000) : 0 ≤ cellSize k c ∧ cellSize k c ≤ 3000000 := by
  unfold cellSize; split <;> split <;> omega
theorem sizeC_bd (k : Int) : ∀ l : List CellM, (∀ c ∈ l, c.key.length ≤ 1000000 ∧ c.loc.length ≤ 1000000) → 0 ≤ sizeC k l ∧ sizeC k l ≤ 3000000 * l.length
  | [], _ => by simp [sizeC]
  | c :: l, h => by
    have h1 := cellSize_bd k c (h c (by simp))
    have h2 := sizeC_bd k l (fun d hd => h d (by simp [hd]))
    simp only [sizeC, List.length_cons]; omega
def sizeN (x : NodeM) : Int := (if x.kind = 2 then 7 else 3) + sizeC x.kind x.cells

set_option maxRecDepth 100000 in
set_option maxHeartbeats 4000000 in
theorem tsize_k1 (first : Int) (l : List CellM) (data : List UInt8) (v : Value) (w : World) (hs : CellsAt w v l) (hn : l.length ≤ 100000) (hz : ∀ c ∈ l, c.key.length ≤ 1000000 ∧ c.loc.length ≤ 1000000) :
    Calls Tryz.prog 187 #[nodeV ⟨1, first, l, data⟩ v] w fun e w' => e = .returned (.int .i64 (3 + sizeC 1 l)) ∧ Below w.heap.size w w' := by
  have HS := Lib.hid hs
  have HZ := Lib.hid hz
  have HN := Lib.hid hn
  clear hs hz hn
  obtain ⟨a, cap, rfl⟩ := HS.out.slice
  have HE1 := Lib.hid (Chg.refl [] w)
  go_enter Tryz.func187, Tryz.ntmps187
  go_upto_region 1 with fail
  have hC2 : Hid (Chg [] w (w.alloc (.cells #[.int .u8 1, .int .i64 first, .slice a l.length cap, vs data] 150))) := Lib.hid ((Chg.refl [] w).alloc (.cells #[.int .u8 1, .int .i64 first, .slice a l.length cap, vs data] 150))
  have HZ3 := Lib.hid hC2.out.size
  have H_x_4 : Hid ((w.alloc (.cells #[.int .u8 1, .int .i64 first, .slice a l.length cap, vs data] 150)).heap[w.heap.size]? = some (.cells #[.int .u8 1, .int .i64 first, .slice a l.length cap, vs data] 150)) := Lib.hid (heapNew (by simp [World.setCell]) (.cells #[.int .u8 1, .int .i64 first, .slice a l.length cap, vs data] 150))
  have HE5 := Lib.hid (HE1.out.after hC2.out (by simp))
  generalize (w.alloc (.cells #[.int .u8 1, .int .i64 first, .slice a l.length cap, vs data] 150)) = W6 at *
  have HS2 : Hid (CellsAt W6 (.slice a l.length cap) l) := Lib.hid (HS.out.below (hC2.out.to_below (Nat.le_refl _) (by simp)))
  have c_x_0 : W6.cell? ⟨w.heap.size, 0, none⟩ = some (.int .u8 1) := cellAt H_x_4.out 0
  have c_x_2 : W6.cell? ⟨w.heap.size, 2, none⟩ = some (.slice a l.length cap) := cellAt H_x_4.out 2
  go_wp2_with fail
  clear c_x_0 c_x_2
  have hln : l.length ≤ 100000 := HN.out
  go_loopw [3, 12] (fun n i wr => ∃ j : Nat, i = .int .i64 j ∧ j ≤ l.length ∧ n = .int .i64 (3 + sizeC 1 (l.take j)) ∧ Hid (Below W6.heap.size W6 wr)) (fun _ i _ => l.length - (intOf i).toNat)
  case atStart => exact ⟨0, rfl, Nat.zero_le _, rfl, Lib.hid (Below.refl _ _)⟩
  case round =>
    obtain ⟨j, rfl, hj, rfl, HB⟩ := hrel
    skip
    have HXR := Lib.hid (Below.get HB.out H_x_4.out)
    have bdt := sizeC_bd 1 (l.take j) (fun c hc => HZ.out c (List.mem_of_mem_take hc))
    have hlt2 : (l.take j).length ≤ 100000 := by rw [List.length_take]; omega
    have bd0 := bdt.1
    have bd1 : sizeC 1 (l.take j) ≤ 300000000000 := by omega
    clear bdt hlt2
    by_cases hlt : j < l.length
    ·
      have HLT := Lib.hid hlt
      obtain ⟨c, hc⟩ : ∃ c, l[j]? = some c := ⟨_, List.getElem?_eq_getElem hlt⟩
      have hmem : c ∈ l := List.mem_of_getElem? hc
      have hsz := HZ.out c hmem
      obtain ⟨z1, z2⟩ := hsz
      have HNX : Hid (sizeC 1 (l.take (j + 1)) = sizeC 1 (l.take j) + cellSize 1 c) := Lib.hid (by rw [List.take_add_one, hc, Option.toList_some, sizeC_app]; simp [sizeC])
      rcases HS2.out.below HB.out with ⟨-, h0⟩ | ⟨b, off, cap', hv, hbl, hcs⟩
      · rw [h0] at hlt; simp at hlt
      cases hv
      obtain ⟨k0, k1, k2, k3⟩ := hcs j c hc
      clear hcs hc hmem
      have e0 : wr.heap.size < (wr.alloc (cellO c)).heap.size := by simp
      have c_x_0 : wr.cell? ⟨w.heap.size, 0, none⟩ = some (.int .u8 1) := cellAt HXR.out 0
      have o_x_0_1 : (wr.alloc (cellO c)).cell? ⟨w.heap.size, 0, none⟩ = some (.int .u8 1) := cellAt (heapOld HXR.out (cellO c)) 0
      by_cases hpg : 0 < c.page
      ·
        have HPG := Lib.hid hpg
        go_wp2_with fail
        go_roundw
        case rel => exact ⟨j + 1, by go_num, HLT.out, by rw [HNX.out, cellSize]; simp only [if_pos HPG.out, if_true]; exact congrArg _ (by omega), Lib.hid (HB.out.alloc HB.out.size _)⟩
        case measure => have := HLT.out; simp only [intOf]; omega
      ·
        have HPG := Lib.hid hpg
        go_wp2_with fail
        go_roundw
        case rel => exact ⟨j + 1, by go_num, HLT.out, by rw [HNX.out, cellSize]; simp only [if_neg HPG.out, if_true]; exact congrArg _ (by omega), Lib.hid (HB.out.alloc HB.out.size _)⟩
        case measure => have := HLT.out; simp only [intOf]; omega
    ·
      have hjl : j = l.length := by omega
      subst hjl
      have c_x_0 : wr.cell? ⟨w.heap.size, 0, none⟩ = some (.int .u8 1) := cellAt HXR.out 0
      go_wp2_with fail
      go_ret
      refine ⟨by rw [List.take_length]; rfl, ?_⟩
      exact (hC2.out.to_below (Nat.le_refl _) (by simp)).trans (HB.out.mono hC2.out.size)

set_option maxRecDepth 100000 in
set_option maxHeartbeats 4000000 in
theorem tsize_k2 (first : Int) (l : List CellM) (data : List UInt8) (v : Value) (w : World) (hs : CellsAt w v l) (hn : l.length ≤ 100000) (hz : ∀ c ∈ l, c.key.length ≤ 1000000 ∧ c.loc.length ≤ 1000000) :
    Calls Tryz.prog 187 #[nodeV ⟨2, first, l, data⟩ v] w fun e w' => e = .returned (.int .i64 (7 + sizeC 2 l)) ∧ Below w.heap.size w w' := by
  have HS := Lib.hid hs
  have HZ := Lib.hid hz
  have HN := Lib.hid hn
  clear hs hz hn
  obtain ⟨a, cap, rfl⟩ := HS.out.slice
  have HE1 := Lib.hid (Chg.refl [] w)
  go_enter Tryz.func187, Tryz.ntmps187
  go_upto_region 1 with fail
  have hC2 : Hid (Chg [] w (w.alloc (.cells #[.int .u8 2, .int .i64 first, .slice a l.length cap, vs data] 150))) := Lib.hid ((Chg.refl [] w).alloc (.cells #[.int .u8 2, .int .i64 first, .slice a l.length cap, vs data] 150))
  have HZ3 := Lib.hid hC2.out.size
  have H_x_4 : Hid ((w.alloc (.cells #[.int .u8 2, .int .i64 first, .slice a l.length cap, vs data] 150)).heap[w.heap.size]? = some (.cells #[.int .u8 2, .int .i64 first, .slice a l.length cap, vs data] 150)) := Lib.hid (heapNew (by simp [World.setCell]) (.cells #[.int .u8 2, .int .i64 first, .slice a l.length cap, vs data] 150))
  have HE5 := Lib.hid (HE1.out.after hC2.out (by simp))
  generalize (w.alloc (.cells #[.int .u8 2, .int .i64 first, .slice a l.length cap, vs data] 150)) = W6 at *
  have HS2 : Hid (CellsAt W6 (.slice a l.length cap) l) := Lib.hid (HS.out.below (hC2.out.to_below (Nat.le_refl _) (by simp)))
  have c_x_0 : W6.cell? ⟨w.heap.size, 0, none⟩ = some (.int .u8 2) := cellAt H_x_4.out 0
  have c_x_2 : W6.cell? ⟨w.heap.size, 2, none⟩ = some (.slice a l.length cap) := cellAt H_x_4.out 2
  go_wp2_with fail
  clear c_x_0 c_x_2
  have hln : l.length ≤ 100000 := HN.out
  go_loopw [3, 12] (fun n i wr => ∃ j : Nat, i = .int .i64 j ∧ j ≤ l.length ∧ n = .int .i64 (7 + sizeC 2 (l.take j)) ∧ Hid (Below W6.heap.size W6 wr)) (fun _ i _ => l.length - (intOf i).toNat)
  case atStart => exact ⟨0, rfl, Nat.zero_le _, rfl, Lib.hid (Below.refl _ _)⟩
  case round =>
    obtain ⟨j, rfl, hj, rfl, HB⟩ := hrel
    skip
    have HXR := Lib.hid (Below.get HB.out H_x_4.out)
    have bdt := sizeC_bd 2 (l.take j) (fun c hc => HZ.out c (List.mem_of_mem_take hc))
    have hlt2 : (l.take j).length ≤ 100000 := by rw [List.length_take]; omega
    have bd0 := bdt.1
    have bd1 : sizeC 2 (l.take j) ≤ 300000000000 := by omega
    clear bdt hlt2
    by_cases hlt : j < l.length
    ·
      have HLT := Lib.hid hlt
      obtain ⟨c, hc⟩ : ∃ c, l[j]? = some c := ⟨_, List.getElem?_eq_getElem hlt⟩
      have hmem : c ∈ l := List.mem_of_getElem? hc
      have hsz := HZ.out c hmem
      obtain ⟨z1, z2⟩ := hsz
      have HNX : Hid (sizeC 2 (l.take (j + 1)) = sizeC 2 (l.take j) + cellSize 2 c) := Lib.hid (by rw [List.take_add_one, hc, Option.toList_some, sizeC_app]; simp [sizeC])
      rcases HS2.out.below HB.out with ⟨-, h0⟩ | ⟨b, off, cap', hv, hbl, hcs⟩
      · rw [h0] at hlt; simp at hlt
      cases hv
      obtain ⟨k0, k1, k2, k3⟩ := hcs j c hc
      clear hcs hc hmem
      have e0 : wr.heap.size < (wr.alloc (cellO c)).heap.size := by simp
      have c_x_0 : wr.cell? ⟨w.heap.size, 0, none⟩ = some (.int .u8 2) := cellAt HXR.out 0
      have o_x_0_1 : (wr.alloc (cellO c)).cell? ⟨w.heap.size, 0, none⟩ = some (.int .u8 2) := cellAt (heapOld HXR.out (cellO c)) 0
      by_cases hpg : 0 < c.page
      ·
        have HPG := Lib.hid hpg
        go_wp2_with fail
        go_roundw
        case rel => exact ⟨j + 1, by go_num, HLT.out, by rw [HNX.out, cellSize]; simp only [if_pos HPG.out, show ¬ (2 : Int) = 1 by decide, if_false]; exact congrArg _ (by omega), Lib.hid (HB.out.alloc HB.out.size _)⟩
        case measure => have := HLT.out; simp only [intOf]; omega
      ·
        have HPG := Lib.hid hpg
        go_wp2_with fail
        go_roundw
        case rel => exact ⟨j + 1, by go_num, HLT.out, by rw [HNX.out, cellSize]; simp only [if_neg HPG.out, show ¬ (2 : Int) = 1 by decide, if_false]; exact congrArg _ (by omega), Lib.hid (HB.out.alloc HB.out.size _)⟩
        case measure => have := HLT.out; simp only [intOf]; omega
    ·
      have hjl : j = l.length := by omega
      subst hjl
      have c_x_0 : wr.cell? ⟨w.heap.size, 0, none⟩ = some (.int .u8 2) := cellAt HXR.out 0
      go_wp2_with fail
      go_ret
      refine ⟨by rw [List.take_length]; rfl, ?_⟩
      exact (hC2.out.to_below (Nat.le_refl _) (by simp)).trans (HB.out.mono hC2.out.size)

theorem tsize_any (x : NodeM) (v : Value) (w : World) (hk : x.kind = 1 ∨ x.kind = 2) (hs : CellsAt w v x.cells) (hz : Small x) :
    Calls Tryz.prog 187 #[nodeV x v] w fun e w' => e = .returned (.int .i64 (sizeN x)) ∧ Below w.heap.size w w' := by
  obtain ⟨k, f, l, d⟩ := x
  simp only at hk
  rcases hk with rfl | rfl
  · exact tsize_k1 f l d v w hs hz.cells hz.each
  · exact tsize_k2 f l d v w hs hz.cells hz.each

end Go.Proofs.YtobmnnihmbdfjaaGreat
