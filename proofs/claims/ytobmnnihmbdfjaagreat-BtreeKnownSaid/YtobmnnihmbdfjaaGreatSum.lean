/- Sums of bytes: sum.words, sum.blocks, sum.Add, sum.Of; frame.Start. -/
import Derived.Test.YtobmnnihmbdfjaaGreatIns2
import Derived.Lib.BufferWrite
import Derived.Laws.CopyOwn
import Derived.Test.YtobmnnihmbdfjaaGreatKeys
set_option linter.all false
namespace Go.Proofs.YtobmnnihmbdfjaaGreat
open Go.RowKit

def pad8 (s : List UInt8) : List UInt8 := s ++ List.replicate (8 - s.length) 0
theorem pad8_length (s : List UInt8) (h : s.length ≤ 8) : (pad8 s).length = 8 := by simp [pad8]; omega
def wordA (s : List UInt8) : Int := takeFour ((pad8 s).take 4)
def wordB (s : List UInt8) : Int := takeFour (((pad8 s).drop 4).take 4)

abbrev b8 : Array Value := #[.int .u8 0, .int .u8 0, .int .u8 0, .int .u8 0, .int .u8 0, .int .u8 0, .int .u8 0, .int .u8 0]

theorem conv_row (W : World) (g : Nat) (row : List UInt8) (t : TypeId) (h : W.heap[g]? = some (.cells (Lib.byteCells row).toArray t (0, 0))) (o n c : Nat) (hn : o + n ≤ row.length) :
    (convert 92 9 (.slice (some ⟨g, o, none⟩) n c)).run Tryz.prog W = .ok (vs ((row.drop o).take n)) W := by
  have hl : ((row.drop o).take n).length = n := by rw [List.length_take, List.length_drop]; omega
  have := run_convert_bytes_back (P := Tryz.prog) W 92 9 5 ⟨g, o, none⟩ c ((row.drop o).take n) Tryz.underlying92 Tryz.underlying5 Tryz.underlying9 (fun j hj => by
    rw [Addr.add_lit, cellAt h]
    have hj' : j < n := by rw [← hl]; exact hj
    simp only [Lib.byteCells, List.getElem?_toArray, List.getElem?_map, List.getElem_take, List.getElem_drop]
    rw [List.getElem?_eq_getElem (by omega)]; rfl)
  rw [hl] at this
  exact this

set_option maxRecDepth 100000 in
set_option maxHeartbeats 2000000 in
theorem words_any (s : List UInt8) (hs : s.length ≤ 8) (w : World) :
    Calls Tryz.prog 273 #[vs s] w fun e w' => e = .returned (.tuple #[.int .u32 (wordA s), .int .u32 (wordB s)]) ∧ Below w.heap.size w w' := by
  have hsz : (Tryz.prog.info? 5).map (·.size) = some 1 := by kernel_rfl
  obtain ⟨g, hg⟩ : ∃ g, g = w.heap.size := ⟨_, rfl⟩
  obtain ⟨W1, hW1⟩ : ∃ W1, W1 = w.alloc (.cells b8 363) := ⟨_, rfl⟩
  have hh : W1.heap[g]? = some (.cells b8 363 (0, 0)) := by rw [hW1, hg]; exact heap_alloc_new w _
  have hs8 : ({ data := s.toArray } : ByteArray).size = s.length := by simp [ByteArray.size]
  have hrow : (b8.toList.take 0 ++ Lib.byteCells s ++ b8.toList.drop (0 + s.length)) = Lib.byteCells (pad8 s) := by
    have : b8.toList.drop s.length = Lib.byteCells (List.replicate (8 - s.length) 0) := by
      have h8 : b8.toList = Lib.byteCells (List.replicate 8 0) := rfl
      rw [h8]
      simp only [Lib.byteCells, ← List.map_drop, List.drop_replicate]
    simp only [List.take_zero, List.nil_append, Nat.zero_add, this, pad8]
    simp [Lib.byteCells]
  have hcp : ∀ ty, (Builtin.copy_ #[92, 9] ty #[.slice (some ⟨g, 0, none⟩) 8 8, vs s]).run Tryz.prog W1 = .ok (goInt s.length) (W1.setRow g (Lib.byteCells (pad8 s)).toArray) := fun ty => by
    have := Lib.run_copy_row_string (P := Tryz.prog) W1 92 9 ty 5 g 0 8 8 ⟨s.toArray⟩ b8 363 Tryz.underlying92 hsz hh (by rw [hs8]; exact hs) (by rw [hs8]; show 0 + s.length ≤ 8; omega)
    rw [hs8] at this
    simp only at this
    rw [hrow] at this
    exact this
  obtain ⟨W2, hW2⟩ : ∃ W2, W2 = W1.setRow g (Lib.byteCells (pad8 s)).toArray := ⟨_, rfl⟩
  have hh2 : W2.heap[g]? = some (.cells (Lib.byteCells (pad8 s)).toArray 363 (0, 0)) := by rw [hW2]; exact setRow_heap W1 g _ _ 363 _ hh
  have hB2 : Below w.heap.size w W2 := by
    rw [hW2]
    exact below_setRow ((hW1 ▸ (Below.refl w.heap.size w).alloc (Nat.le_refl _) _)) (by omega) _
  rw [← hW2] at hcp
  have hc1 := conv_row W2 g (pad8 s) 363 hh2 0 4 8 (by rw [pad8_length s hs]; decide)
  have hc2 : ∀ nq, (convert 92 9 (.slice (some ⟨g, 4, none⟩) 4 4)).run Tryz.prog (W2.drewN nq) = .ok (vs (((pad8 s).drop 4).take 4)) (W2.drewN nq) := fun nq => conv_row (W2.drewN nq) g (pad8 s) 363 hh2 4 4 4 (by rw [pad8_length s hs]; decide)
  have l1 : ((pad8 s).take 4).length = 4 := by rw [List.length_take, pad8_length s hs]; rfl
  have l2 : (((pad8 s).drop 4).take 4).length = 4 := by rw [List.length_take, List.length_drop, pad8_length s hs]; rfl
  have HA : Hid (takeFour ((pad8 s).take 4) = wordA s) := Lib.hid rfl
  have HB : Hid (takeFour (((pad8 s).drop 4).take 4) = wordB s) := Lib.hid rfl
  rw [List.drop_zero] at hc1
  generalize (pad8 s).take 4 = q1 at *
  generalize ((pad8 s).drop 4).take 4 = q2 at *
  have L1 := Lib.hid l1
  have L2 := Lib.hid l2
  have HB2 := Lib.hid hB2
  have HW1 := Lib.hid hW1
  have HG := Lib.hid hg
  clear hh hh2 hrow hs8 hs l1 l2 hB2 hW2 hW1 hg
  go_enter Tryz.func273, Tryz.ntmps273
  go_upto_region 2 with fail
  rw [← HG.out, ← HW1.out]
  go_wp2_with (first | (at_builtin; refine wpList_copy_runI _ rfl _ _ 92 9 rfl _ _ rfl rfl (hcp _) ?_) | (go_at_call 178; refine (takeFour_any _ _ (by show q1.toArray.size ≤ maxLen; rw [List.size_toArray, L1.out]; decide) (by show 4 ≤ q1.toArray.size; rw [List.size_toArray, L1.out]; decide)).mono ?_; rintro e w1 ⟨rfl, nq, rfl⟩) | (go_at_call 178; refine (takeFour_any _ _ (by show q2.toArray.size ≤ maxLen; rw [List.size_toArray, L2.out]; decide) (by show 4 ≤ q2.toArray.size; rw [List.size_toArray, L2.out]; decide)).mono ?_; rintro e w1 ⟨rfl, nq2, rfl⟩))
  go_ret2
  refine ⟨by rw [← HA.out, ← HB.out]; rfl, ?_⟩
  exact HB2.out.trans ((belowDrewN _ _).mono (by have := HB2.out.size; exact this)) 

end Go.Proofs.YtobmnnihmbdfjaaGreat
