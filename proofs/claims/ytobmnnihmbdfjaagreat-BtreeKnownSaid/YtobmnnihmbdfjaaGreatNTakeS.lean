/- Pages of trees: node.Take. -/
import Derived.Test.YtobmnnihmbdfjaaGreatCRows
import Derived.Test.YtobmnnihmbdfjaaGreatKeys
set_option linter.all false
namespace Go.Proofs.YtobmnnihmbdfjaaGreat
open Go.RowKit

set_option maxRecDepth 100000 in
set_option maxHeartbeats 4000000 in
theorem ntake_short (p : List UInt8) (hsz : p.length ≠ 512) (hl : p.length ≤ 100000) (w : World) : Calls Tryz.prog 123 #[vs p] w (TakePost p w) := by
  have e1 : ((p.length : Int) == 512) = false := by simp; omega
  have e2 : ((p.length : Int) != 512) = true := by simp; omega
  have htk : takeN p = none := by unfold takeN; rw [if_pos hsz]
  have HTK := Lib.hid htk
  clear htk hsz
  have HE1 := Lib.hid (Chg.refl [] w)
  go_enter Tryz.func123, Tryz.ntmps123
  go_wp2_with fail
  have hC2 : Hid (Chg [] w (w.alloc (.cells #[.int .u8 0, .int .i64 0, .slice none 0 0, .string { data := #[] }] 150))) := Lib.hid ((Chg.refl [] w).alloc (.cells #[.int .u8 0, .int .i64 0, .slice none 0 0, .string { data := #[] }] 150))
  have H_res_3 : Hid ((w.alloc (.cells #[.int .u8 0, .int .i64 0, .slice none 0 0, .string { data := #[] }] 150)).heap[w.heap.size]? = some (.cells #[.int .u8 0, .int .i64 0, .slice none 0 0, .string { data := #[] }] 150)) := Lib.hid (heapNew (by simp [World.setCell]) (.cells #[.int .u8 0, .int .i64 0, .slice none 0 0, .string { data := #[] }] 150))
  have HE4 := Lib.hid (HE1.out.after hC2.out (by simp))
  generalize (w.alloc (.cells #[.int .u8 0, .int .i64 0, .slice none 0 0, .string { data := #[] }] 150)) = W5 at *
  have c_res_0 : W5.cell? ⟨w.heap.size, 0, none⟩ = some (.int .u8 0) := cellAt H_res_3.out 0
  have c_res_1 : W5.cell? ⟨w.heap.size, 1, none⟩ = some (.int .i64 0) := cellAt H_res_3.out 1
  have c_res_2 : W5.cell? ⟨w.heap.size, 2, none⟩ = some (.slice none 0 0) := cellAt H_res_3.out 2
  have c_res_3 : W5.cell? ⟨w.heap.size, 3, none⟩ = some (.string { data := #[] }) := cellAt H_res_3.out 3
  exact bodyPost_ret (v := .tuple #[.agg #[.int .u8 0, .int .i64 0, .slice none 0 0, .string { data := #[] }], .int .i64 7]) (by simp [results, Tryz.results123, go_sem, c_res_0, c_res_1, c_res_2, c_res_3]; try rfl) rfl (TakePost.mk (.slice none 0 0) (by rw [HTK.out]; rfl) (by rw [HTK.out]; exact World.ownsRow_nil _ _ _ _) (HE4.out.to_below (Nat.le_refl _) (by simp)))

end Go.Proofs.YtobmnnihmbdfjaaGreat
