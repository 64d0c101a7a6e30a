/- A tree's pages: read, write. -/
import Derived.Test.YtobmnnihmbdfjaaGreatTree0
import Derived.Deep.Cut
set_option linter.all false
namespace Go.Proofs.YtobmnnihmbdfjaaGreat
open Go.RowKit

abbrev treeO (pb : Nat) (left : Int) : Obj := .cells #[ptr pb, .int .i64 left] 213
abbrev zeroN : NodeM := ⟨0, 0, [], []⟩
def readN (base : Int → List UInt8) (tx : Tx) (left n : Int) (kinds : List Int) : Option NodeM :=
  if n < 2 ∨ tx.pages < n ∨ left < 1 then none else (takeN (tx.view base n)).bind fun x => if kinds.contains x.kind then some x else none
def ReadPost (r : Option NodeM) (tb pb : Nat) (left : Int) (w : World) (e : Ending) (w' : World) : Prop :=
  ∃ v, e = .returned (.tuple #[nodeV (r.getD zeroN) v, .int .i64 (if r.isSome then 0 else 7)]) ∧ CRow w' w.heap.size v (r.getD zeroN).cells ∧ w'.heap[tb]? = some (treeO pb left) ∧ Chg [tb] w w'
theorem ReadPost.mk {r : Option NodeM} {tb pb : Nat} {left : Int} {w w' : World} {e : Ending} (v : Value) (h1 : e = .returned (.tuple #[nodeV (r.getD zeroN) v, .int .i64 (if r.isSome then 0 else 7)])) (h2 : CRow w' w.heap.size v (r.getD zeroN).cells) (h3 : w'.heap[tb]? = some (treeO pb left)) (h4 : Chg [tb] w w') : ReadPost r tb pb left w e w' := ⟨v, h1, h2, h3, h4⟩
theorem u8_row {w : World} {kb : Nat} {l : List Int} (h : w.heap[kb]? = some (.cells (l.map (Value.int .u8)).toArray 5)) : ∀ j x, l[j]? = some x → w.cell? ⟨kb, 0 + j, none⟩ = some (.int .u8 x) := by
  intro j x hx
  rw [cellAt h]
  simp [hx]

set_option maxRecDepth 100000 in
set_option maxHeartbeats 8000000 in
theorem tread_any {B w pb tt mb lb L sv op base tx} (h : PgB B w pb tt mb lb L sv op base tx) (tb : Nat) (hB : B ≤ tb) (left n : Int) (hl0 : -1000 ≤ left) (hl9 : left ≤ 1000) (ht : w.heap[tb]? = some (treeO pb left)) (kinds : List Int) (hl1 : kinds.length ≤ 1000) (kb kcap : Nat) (hne : kb ≠ tb) (hkb : w.heap[kb]? = some (.cells (kinds.map (Value.int .u8)).toArray 5)) (hlen : (tx.view base n).length ≤ 100000) :
    Calls Tryz.prog 144 #[ptr tb, .int .i64 n, .slice (some ⟨kb, 0, none⟩) kinds.length kcap] w (ReadPost (readN base tx left n kinds) tb pb (left - 1) w) := by
  have HPG := Lib.hid h
  have HBT := Lib.hid hB
  have HT0 := Lib.hid ht
  have HKB := Lib.hid hkb
  have HVL := Lib.hid hlen
  have HNE := Lib.hid hne
  have HBW := Lib.hid h.le
  have HHI := Lib.hid h.pg.hi
  have HL1 := Lib.hid hl1
  clear h hB ht hkb hlen hne hl1
  have HE1 := Lib.hid (Chg.refl [tb] w)
  go_enter Tryz.func144, Tryz.ntmps144
  have HRD : Hid (readN base tx left n kinds = if n < 2 ∨ tx.pages < n ∨ left < 1 then none else (takeN (tx.view base n)).bind fun x => if kinds.contains x.kind then some x else none) := Lib.hid rfl
  have c_t_0 : w.cell? ⟨tb, 0, none⟩ = some (ptr pb) := cellAt HT0.out 0
  have c_t_1 : w.cell? ⟨tb, 1, none⟩ = some (.int .i64 left) := cellAt HT0.out 1
  have f_t_1 : w.frozen? ⟨tb, 1, none⟩ = false := freeAt HT0.out 1
  have o_t_0_1 : (w.alloc (.cells #[.int .u8 0, .int .i64 0, .slice none 0 0, .string { data := #[] }] 150)).cell? ⟨tb, 0, none⟩ = some (ptr pb) := cellAt (heapOld HT0.out (.cells #[.int .u8 0, .int .i64 0, .slice none 0 0, .string { data := #[] }] 150)) 0
  have o_t_1_1 : (w.alloc (.cells #[.int .u8 0, .int .i64 0, .slice none 0 0, .string { data := #[] }] 150)).cell? ⟨tb, 1, none⟩ = some (.int .i64 left) := cellAt (heapOld HT0.out (.cells #[.int .u8 0, .int .i64 0, .slice none 0 0, .string { data := #[] }] 150)) 1
  have ff : (w.alloc (.cells #[.int .u8 0, .int .i64 0, .slice none 0 0, .string { data := #[] }] 150)).frozen? ⟨tb, 1, none⟩ = false := freeAt (heapOld HT0.out _) 1
  go_upto_region 2 with fail
  clear c_t_0 c_t_1 f_t_1 o_t_0_1 o_t_1_1
  clear ff
  have HL2 := Lib.hid (lt_of_block HT0.out)
  have HL3 := Lib.hid (lt_of_block HKB.out)
  have hC4 : Hid (Chg [tb] w ((w.alloc (.cells #[.int .u8 0, .int .i64 0, .slice none 0 0, .string { data := #[] }] 150)).setCell ⟨tb, 1, none⟩ (.int .i64 (left - 1)))) := Lib.hid (((Chg.refl [tb] w).alloc (.cells #[.int .u8 0, .int .i64 0, .slice none 0 0, .string { data := #[] }] 150)).setCell (.inl (by simp)) (.int .i64 (left - 1)))
  have HZ5 := Lib.hid hC4.out.size
  have H_t_6 : Hid (((w.alloc (.cells #[.int .u8 0, .int .i64 0, .slice none 0 0, .string { data := #[] }] 150)).setCell ⟨tb, 1, none⟩ (.int .i64 (left - 1))).heap[tb]? = some (.cells #[ptr pb, .int .i64 (left - 1)] 213)) := Lib.hid (setAt (heapOld HT0.out (.cells #[.int .u8 0, .int .i64 0, .slice none 0 0, .string { data := #[] }] 150)) 1 (.int .i64 (left - 1)))
  have H_kinds_7 : Hid (((w.alloc (.cells #[.int .u8 0, .int .i64 0, .slice none 0 0, .string { data := #[] }] 150)).setCell ⟨tb, 1, none⟩ (.int .i64 (left - 1))).heap[kb]? = some (.cells (kinds.map (Value.int .u8)).toArray 5)) := Lib.hid ((setOff 1 (.int .i64 (left - 1)) (by have := HBT.out; have := HBW.out; have := HNE.out; have := HL2.out; have := HL3.out; omega)).trans (heapOld HKB.out (.cells #[.int .u8 0, .int .i64 0, .slice none 0 0, .string { data := #[] }] 150)))
  have H_res_8 : Hid (((w.alloc (.cells #[.int .u8 0, .int .i64 0, .slice none 0 0, .string { data := #[] }] 150)).setCell ⟨tb, 1, none⟩ (.int .i64 (left - 1))).heap[w.heap.size]? = some (.cells #[.int .u8 0, .int .i64 0, .slice none 0 0, .string { data := #[] }] 150)) := Lib.hid ((setOff 1 (.int .i64 (left - 1)) (by have := HBT.out; have := HBW.out; have := HNE.out; have := HL2.out; have := HL3.out; omega)).trans (heapNew (by simp [World.setCell]) (.cells #[.int .u8 0, .int .i64 0, .slice none 0 0, .string { data := #[] }] 150)))
  have H_pg_9 := Lib.hid (PgB.kept HPG.out hC4.out (by intro k hk; have := HBT.out; have := HBW.out; have := HNE.out; have := HL2.out; have := HL3.out; have := HZ5.out; simp only [List.mem_cons, List.mem_singleton, List.not_mem_nil, or_false] at hk; omega))
  have HE10 := Lib.hid (HE1.out.after hC4.out (by intro k hk; have := HBT.out; have := HBW.out; have := HNE.out; have := HL2.out; have := HL3.out; have := HZ5.out; simp only [List.mem_cons, List.mem_singleton, List.not_mem_nil, or_false] at hk ⊢; omega))
  generalize ((w.alloc (.cells #[.int .u8 0, .int .i64 0, .slice none 0 0, .string { data := #[] }] 150)).setCell ⟨tb, 1, none⟩ (.int .i64 (left - 1))) = W11 at *
  by_cases h2 : n < 2
  ·
    have hrd : readN base tx left n kinds = none := by rw [HRD.out]; rw [if_pos (.inl h2)]
    have HRN := Lib.hid hrd
    clear hrd
    have c_t_0 : W11.cell? ⟨tb, 0, none⟩ = some (ptr pb) := cellAt H_t_6.out 0
    have c_t_1 : W11.cell? ⟨tb, 1, none⟩ = some (.int .i64 (left - 1)) := cellAt H_t_6.out 1
    have c_res_0 : W11.cell? ⟨w.heap.size, 0, none⟩ = some (.int .u8 0) := cellAt H_res_8.out 0
    have c_res_1 : W11.cell? ⟨w.heap.size, 1, none⟩ = some (.int .i64 0) := cellAt H_res_8.out 1
    have c_res_2 : W11.cell? ⟨w.heap.size, 2, none⟩ = some (.slice none 0 0) := cellAt H_res_8.out 2
    have c_res_3 : W11.cell? ⟨w.heap.size, 3, none⟩ = some (.string { data := #[] }) := cellAt H_res_8.out 3
    have f_res_0 : W11.frozen? ⟨w.heap.size, 0, none⟩ = false := freeAt H_res_8.out 0
    have f_res_1 : W11.frozen? ⟨w.heap.size, 1, none⟩ = false := freeAt H_res_8.out 1
    have f_res_2 : W11.frozen? ⟨w.heap.size, 2, none⟩ = false := freeAt H_res_8.out 2
    have f_res_3 : W11.frozen? ⟨w.heap.size, 3, none⟩ = false := freeAt H_res_8.out 3
    go_wp2_with fail
    clear c_t_0 c_t_1 c_res_0 c_res_1 c_res_2 c_res_3 f_res_0 f_res_1 f_res_2 f_res_3
    have HL12 := Lib.hid (lt_of_block H_t_6.out)
    have HL13 := Lib.hid (lt_of_block H_kinds_7.out)
    have HL14 := Lib.hid (lt_of_block H_res_8.out)
    have hC15 : Hid (Chg [w.heap.size] W11 ((((W11.setCell ⟨w.heap.size, 0, none⟩ (.int .u8 0)).setCell ⟨w.heap.size, 1, none⟩ (.int .i64 0)).setCell ⟨w.heap.size, 2, none⟩ (.slice none 0 0)).setCell ⟨w.heap.size, 3, none⟩ (.string { data := #[] }))) := Lib.hid (((((Chg.refl [w.heap.size] W11).setCell (.inl (by simp)) (.int .u8 0)).setCell (.inl (by simp)) (.int .i64 0)).setCell (.inl (by simp)) (.slice none 0 0)).setCell (.inl (by simp)) (.string { data := #[] }))
    have HZ16 := Lib.hid hC15.out.size
    have H_t_17 : Hid (((((W11.setCell ⟨w.heap.size, 0, none⟩ (.int .u8 0)).setCell ⟨w.heap.size, 1, none⟩ (.int .i64 0)).setCell ⟨w.heap.size, 2, none⟩ (.slice none 0 0)).setCell ⟨w.heap.size, 3, none⟩ (.string { data := #[] })).heap[tb]? = some (.cells #[ptr pb, .int .i64 (left - 1)] 213)) := Lib.hid ((setOff 3 (.string { data := #[] }) (by have := HBT.out; have := HBW.out; have := HNE.out; have := HL2.out; have := HL3.out; have := HZ5.out; have := HL12.out; have := HL13.out; have := HL14.out; omega)).trans ((setOff 2 (.slice none 0 0) (by have := HBT.out; have := HBW.out; have := HNE.out; have := HL2.out; have := HL3.out; have := HZ5.out; have := HL12.out; have := HL13.out; have := HL14.out; omega)).trans ((setOff 1 (.int .i64 0) (by have := HBT.out; have := HBW.out; have := HNE.out; have := HL2.out; have := HL3.out; have := HZ5.out; have := HL12.out; have := HL13.out; have := HL14.out; omega)).trans ((setOff 0 (.int .u8 0) (by have := HBT.out; have := HBW.out; have := HNE.out; have := HL2.out; have := HL3.out; have := HZ5.out; have := HL12.out; have := HL13.out; have := HL14.out; omega)).trans H_t_6.out))))
    have H_kinds_18 : Hid (((((W11.setCell ⟨w.heap.size, 0, none⟩ (.int .u8 0)).setCell ⟨w.heap.size, 1, none⟩ (.int .i64 0)).setCell ⟨w.heap.size, 2, none⟩ (.slice none 0 0)).setCell ⟨w.heap.size, 3, none⟩ (.string { data := #[] })).heap[kb]? = some (.cells (kinds.map (Value.int .u8)).toArray 5)) := Lib.hid ((setOff 3 (.string { data := #[] }) (by have := HBT.out; have := HBW.out; have := HNE.out; have := HL2.out; have := HL3.out; have := HZ5.out; have := HL12.out; have := HL13.out; have := HL14.out; omega)).trans ((setOff 2 (.slice none 0 0) (by have := HBT.out; have := HBW.out; have := HNE.out; have := HL2.out; have := HL3.out; have := HZ5.out; have := HL12.out; have := HL13.out; have := HL14.out; omega)).trans ((setOff 1 (.int .i64 0) (by have := HBT.out; have := HBW.out; have := HNE.out; have := HL2.out; have := HL3.out; have := HZ5.out; have := HL12.out; have := HL13.out; have := HL14.out; omega)).trans ((setOff 0 (.int .u8 0) (by have := HBT.out; have := HBW.out; have := HNE.out; have := HL2.out; have := HL3.out; have := HZ5.out; have := HL12.out; have := HL13.out; have := HL14.out; omega)).trans H_kinds_7.out))))
    have H_res_19 : Hid (((((W11.setCell ⟨w.heap.size, 0, none⟩ (.int .u8 0)).setCell ⟨w.heap.size, 1, none⟩ (.int .i64 0)).setCell ⟨w.heap.size, 2, none⟩ (.slice none 0 0)).setCell ⟨w.heap.size, 3, none⟩ (.string { data := #[] })).heap[w.heap.size]? = some (.cells #[.int .u8 0, .int .i64 0, .slice none 0 0, .string { data := #[] }] 150)) := Lib.hid (setAt (setAt (setAt (setAt H_res_8.out 0 (.int .u8 0)) 1 (.int .i64 0)) 2 (.slice none 0 0)) 3 (.string { data := #[] }))
    have H_pg_20 := Lib.hid (PgB.kept H_pg_9.out hC15.out (by intro k hk; have := HBT.out; have := HBW.out; have := HNE.out; have := HL2.out; have := HL3.out; have := HZ5.out; have := HL12.out; have := HL13.out; have := HL14.out; have := HZ16.out; simp only [List.mem_cons, List.mem_singleton, List.not_mem_nil, or_false] at hk; omega))
    have HE21 := Lib.hid (HE10.out.after hC15.out (by intro k hk; have := HBT.out; have := HBW.out; have := HNE.out; have := HL2.out; have := HL3.out; have := HZ5.out; have := HL12.out; have := HL13.out; have := HL14.out; have := HZ16.out; simp only [List.mem_cons, List.mem_singleton, List.not_mem_nil, or_false] at hk ⊢; omega))
    generalize ((((W11.setCell ⟨w.heap.size, 0, none⟩ (.int .u8 0)).setCell ⟨w.heap.size, 1, none⟩ (.int .i64 0)).setCell ⟨w.heap.size, 2, none⟩ (.slice none 0 0)).setCell ⟨w.heap.size, 3, none⟩ (.string { data := #[] })) = W22 at *
    have c_res_0 : W22.cell? ⟨w.heap.size, 0, none⟩ = some (.int .u8 0) := cellAt H_res_19.out 0
    have c_res_1 : W22.cell? ⟨w.heap.size, 1, none⟩ = some (.int .i64 0) := cellAt H_res_19.out 1
    have c_res_2 : W22.cell? ⟨w.heap.size, 2, none⟩ = some (.slice none 0 0) := cellAt H_res_19.out 2
    have c_res_3 : W22.cell? ⟨w.heap.size, 3, none⟩ = some (.string { data := #[] }) := cellAt H_res_19.out 3
    exact bodyPost_ret (v := .tuple #[.agg #[.int .u8 0, .int .i64 0, .slice none 0 0, .string { data := #[] }], .int .i64 7]) (by simp [results, Tryz.results144, go_sem, c_res_0, c_res_1, c_res_2, c_res_3]; try rfl) rfl (ReadPost.mk (.slice none 0 0) (by rw [HRN.out]; rfl) (by rw [HRN.out]; exact World.ownsRow_nil _ _ _ _) H_t_17.out HE21.out)
  ·
    have c_t_0 : W11.cell? ⟨tb, 0, none⟩ = some (ptr pb) := cellAt H_t_6.out 0
    have c_t_1 : W11.cell? ⟨tb, 1, none⟩ = some (.int .i64 (left - 1)) := cellAt H_t_6.out 1
    go_wp2_with fail
    clear c_t_0 c_t_1
    go_at_call 38; refine (pages_in H_pg_9.out.pg).mono ?_; rintro e w' ⟨rfl, rfl⟩
    by_cases h3 : tx.pages < n
    ·
      have hrd : readN base tx left n kinds = none := by rw [HRD.out]; rw [if_pos (.inr (.inl h3))]
      have HRN := Lib.hid hrd
      clear hrd
      have c_t_0 : W11.cell? ⟨tb, 0, none⟩ = some (ptr pb) := cellAt H_t_6.out 0
      have c_t_1 : W11.cell? ⟨tb, 1, none⟩ = some (.int .i64 (left - 1)) := cellAt H_t_6.out 1
      have c_res_0 : W11.cell? ⟨w.heap.size, 0, none⟩ = some (.int .u8 0) := cellAt H_res_8.out 0
      have c_res_1 : W11.cell? ⟨w.heap.size, 1, none⟩ = some (.int .i64 0) := cellAt H_res_8.out 1
      have c_res_2 : W11.cell? ⟨w.heap.size, 2, none⟩ = some (.slice none 0 0) := cellAt H_res_8.out 2
      have c_res_3 : W11.cell? ⟨w.heap.size, 3, none⟩ = some (.string { data := #[] }) := cellAt H_res_8.out 3
      have f_res_0 : W11.frozen? ⟨w.heap.size, 0, none⟩ = false := freeAt H_res_8.out 0
      have f_res_1 : W11.frozen? ⟨w.heap.size, 1, none⟩ = false := freeAt H_res_8.out 1
      have f_res_2 : W11.frozen? ⟨w.heap.size, 2, none⟩ = false := freeAt H_res_8.out 2
      have f_res_3 : W11.frozen? ⟨w.heap.size, 3, none⟩ = false := freeAt H_res_8.out 3
      go_wp2_with fail
      clear c_t_0 c_t_1 c_res_0 c_res_1 c_res_2 c_res_3 f_res_0 f_res_1 f_res_2 f_res_3
      have HL23 := Lib.hid (lt_of_block H_t_6.out)
      have HL24 := Lib.hid (lt_of_block H_kinds_7.out)
      have HL25 := Lib.hid (lt_of_block H_res_8.out)
      have hC26 : Hid (Chg [w.heap.size] W11 ((((W11.setCell ⟨w.heap.size, 0, none⟩ (.int .u8 0)).setCell ⟨w.heap.size, 1, none⟩ (.int .i64 0)).setCell ⟨w.heap.size, 2, none⟩ (.slice none 0 0)).setCell ⟨w.heap.size, 3, none⟩ (.string { data := #[] }))) := Lib.hid (((((Chg.refl [w.heap.size] W11).setCell (.inl (by simp)) (.int .u8 0)).setCell (.inl (by simp)) (.int .i64 0)).setCell (.inl (by simp)) (.slice none 0 0)).setCell (.inl (by simp)) (.string { data := #[] }))
      have HZ27 := Lib.hid hC26.out.size
      have H_t_28 : Hid (((((W11.setCell ⟨w.heap.size, 0, none⟩ (.int .u8 0)).setCell ⟨w.heap.size, 1, none⟩ (.int .i64 0)).setCell ⟨w.heap.size, 2, none⟩ (.slice none 0 0)).setCell ⟨w.heap.size, 3, none⟩ (.string { data := #[] })).heap[tb]? = some (.cells #[ptr pb, .int .i64 (left - 1)] 213)) := Lib.hid ((setOff 3 (.string { data := #[] }) (by have := HBT.out; have := HBW.out; have := HNE.out; have := HL2.out; have := HL3.out; have := HZ5.out; have := HL23.out; have := HL24.out; have := HL25.out; omega)).trans ((setOff 2 (.slice none 0 0) (by have := HBT.out; have := HBW.out; have := HNE.out; have := HL2.out; have := HL3.out; have := HZ5.out; have := HL23.out; have := HL24.out; have := HL25.out; omega)).trans ((setOff 1 (.int .i64 0) (by have := HBT.out; have := HBW.out; have := HNE.out; have := HL2.out; have := HL3.out; have := HZ5.out; have := HL23.out; have := HL24.out; have := HL25.out; omega)).trans ((setOff 0 (.int .u8 0) (by have := HBT.out; have := HBW.out; have := HNE.out; have := HL2.out; have := HL3.out; have := HZ5.out; have := HL23.out; have := HL24.out; have := HL25.out; omega)).trans H_t_6.out))))
      have H_kinds_29 : Hid (((((W11.setCell ⟨w.heap.size, 0, none⟩ (.int .u8 0)).setCell ⟨w.heap.size, 1, none⟩ (.int .i64 0)).setCell ⟨w.heap.size, 2, none⟩ (.slice none 0 0)).setCell ⟨w.heap.size, 3, none⟩ (.string { data := #[] })).heap[kb]? = some (.cells (kinds.map (Value.int .u8)).toArray 5)) := Lib.hid ((setOff 3 (.string { data := #[] }) (by have := HBT.out; have := HBW.out; have := HNE.out; have := HL2.out; have := HL3.out; have := HZ5.out; have := HL23.out; have := HL24.out; have := HL25.out; omega)).trans ((setOff 2 (.slice none 0 0) (by have := HBT.out; have := HBW.out; have := HNE.out; have := HL2.out; have := HL3.out; have := HZ5.out; have := HL23.out; have := HL24.out; have := HL25.out; omega)).trans ((setOff 1 (.int .i64 0) (by have := HBT.out; have := HBW.out; have := HNE.out; have := HL2.out; have := HL3.out; have := HZ5.out; have := HL23.out; have := HL24.out; have := HL25.out; omega)).trans ((setOff 0 (.int .u8 0) (by have := HBT.out; have := HBW.out; have := HNE.out; have := HL2.out; have := HL3.out; have := HZ5.out; have := HL23.out; have := HL24.out; have := HL25.out; omega)).trans H_kinds_7.out))))
      have H_res_30 : Hid (((((W11.setCell ⟨w.heap.size, 0, none⟩ (.int .u8 0)).setCell ⟨w.heap.size, 1, none⟩ (.int .i64 0)).setCell ⟨w.heap.size, 2, none⟩ (.slice none 0 0)).setCell ⟨w.heap.size, 3, none⟩ (.string { data := #[] })).heap[w.heap.size]? = some (.cells #[.int .u8 0, .int .i64 0, .slice none 0 0, .string { data := #[] }] 150)) := Lib.hid (setAt (setAt (setAt (setAt H_res_8.out 0 (.int .u8 0)) 1 (.int .i64 0)) 2 (.slice none 0 0)) 3 (.string { data := #[] }))
      have H_pg_31 := Lib.hid (PgB.kept H_pg_9.out hC26.out (by intro k hk; have := HBT.out; have := HBW.out; have := HNE.out; have := HL2.out; have := HL3.out; have := HZ5.out; have := HL23.out; have := HL24.out; have := HL25.out; have := HZ27.out; simp only [List.mem_cons, List.mem_singleton, List.not_mem_nil, or_false] at hk; omega))
      have HE32 := Lib.hid (HE10.out.after hC26.out (by intro k hk; have := HBT.out; have := HBW.out; have := HNE.out; have := HL2.out; have := HL3.out; have := HZ5.out; have := HL23.out; have := HL24.out; have := HL25.out; have := HZ27.out; simp only [List.mem_cons, List.mem_singleton, List.not_mem_nil, or_false] at hk ⊢; omega))
      generalize ((((W11.setCell ⟨w.heap.size, 0, none⟩ (.int .u8 0)).setCell ⟨w.heap.size, 1, none⟩ (.int .i64 0)).setCell ⟨w.heap.size, 2, none⟩ (.slice none 0 0)).setCell ⟨w.heap.size, 3, none⟩ (.string { data := #[] })) = W33 at *
      have c_res_0 : W33.cell? ⟨w.heap.size, 0, none⟩ = some (.int .u8 0) := cellAt H_res_30.out 0
      have c_res_1 : W33.cell? ⟨w.heap.size, 1, none⟩ = some (.int .i64 0) := cellAt H_res_30.out 1
      have c_res_2 : W33.cell? ⟨w.heap.size, 2, none⟩ = some (.slice none 0 0) := cellAt H_res_30.out 2
      have c_res_3 : W33.cell? ⟨w.heap.size, 3, none⟩ = some (.string { data := #[] }) := cellAt H_res_30.out 3
      exact bodyPost_ret (v := .tuple #[.agg #[.int .u8 0, .int .i64 0, .slice none 0 0, .string { data := #[] }], .int .i64 7]) (by simp [results, Tryz.results144, go_sem, c_res_0, c_res_1, c_res_2, c_res_3]; try rfl) rfl (ReadPost.mk (.slice none 0 0) (by rw [HRN.out]; rfl) (by rw [HRN.out]; exact World.ownsRow_nil _ _ _ _) H_t_28.out HE32.out)
    ·
      by_cases h4 : left < 1
      ·
        have hrd : readN base tx left n kinds = none := by rw [HRD.out]; rw [if_pos (.inr (.inr h4))]
        have HRN := Lib.hid hrd
        clear hrd
        have c_t_0 : W11.cell? ⟨tb, 0, none⟩ = some (ptr pb) := cellAt H_t_6.out 0
        have c_t_1 : W11.cell? ⟨tb, 1, none⟩ = some (.int .i64 (left - 1)) := cellAt H_t_6.out 1
        have c_res_0 : W11.cell? ⟨w.heap.size, 0, none⟩ = some (.int .u8 0) := cellAt H_res_8.out 0
        have c_res_1 : W11.cell? ⟨w.heap.size, 1, none⟩ = some (.int .i64 0) := cellAt H_res_8.out 1
        have c_res_2 : W11.cell? ⟨w.heap.size, 2, none⟩ = some (.slice none 0 0) := cellAt H_res_8.out 2
        have c_res_3 : W11.cell? ⟨w.heap.size, 3, none⟩ = some (.string { data := #[] }) := cellAt H_res_8.out 3
        have f_res_0 : W11.frozen? ⟨w.heap.size, 0, none⟩ = false := freeAt H_res_8.out 0
        have f_res_1 : W11.frozen? ⟨w.heap.size, 1, none⟩ = false := freeAt H_res_8.out 1
        have f_res_2 : W11.frozen? ⟨w.heap.size, 2, none⟩ = false := freeAt H_res_8.out 2
        have f_res_3 : W11.frozen? ⟨w.heap.size, 3, none⟩ = false := freeAt H_res_8.out 3
        go_wp2_with fail
        clear c_t_0 c_t_1 c_res_0 c_res_1 c_res_2 c_res_3 f_res_0 f_res_1 f_res_2 f_res_3
        have HL34 := Lib.hid (lt_of_block H_t_6.out)
        have HL35 := Lib.hid (lt_of_block H_kinds_7.out)
        have HL36 := Lib.hid (lt_of_block H_res_8.out)
        have hC37 : Hid (Chg [w.heap.size] W11 ((((W11.setCell ⟨w.heap.size, 0, none⟩ (.int .u8 0)).setCell ⟨w.heap.size, 1, none⟩ (.int .i64 0)).setCell ⟨w.heap.size, 2, none⟩ (.slice none 0 0)).setCell ⟨w.heap.size, 3, none⟩ (.string { data := #[] }))) := Lib.hid (((((Chg.refl [w.heap.size] W11).setCell (.inl (by simp)) (.int .u8 0)).setCell (.inl (by simp)) (.int .i64 0)).setCell (.inl (by simp)) (.slice none 0 0)).setCell (.inl (by simp)) (.string { data := #[] }))
        have HZ38 := Lib.hid hC37.out.size
        have H_t_39 : Hid (((((W11.setCell ⟨w.heap.size, 0, none⟩ (.int .u8 0)).setCell ⟨w.heap.size, 1, none⟩ (.int .i64 0)).setCell ⟨w.heap.size, 2, none⟩ (.slice none 0 0)).setCell ⟨w.heap.size, 3, none⟩ (.string { data := #[] })).heap[tb]? = some (.cells #[ptr pb, .int .i64 (left - 1)] 213)) := Lib.hid ((setOff 3 (.string { data := #[] }) (by have := HBT.out; have := HBW.out; have := HNE.out; have := HL2.out; have := HL3.out; have := HZ5.out; have := HL34.out; have := HL35.out; have := HL36.out; omega)).trans ((setOff 2 (.slice none 0 0) (by have := HBT.out; have := HBW.out; have := HNE.out; have := HL2.out; have := HL3.out; have := HZ5.out; have := HL34.out; have := HL35.out; have := HL36.out; omega)).trans ((setOff 1 (.int .i64 0) (by have := HBT.out; have := HBW.out; have := HNE.out; have := HL2.out; have := HL3.out; have := HZ5.out; have := HL34.out; have := HL35.out; have := HL36.out; omega)).trans ((setOff 0 (.int .u8 0) (by have := HBT.out; have := HBW.out; have := HNE.out; have := HL2.out; have := HL3.out; have := HZ5.out; have := HL34.out; have := HL35.out; have := HL36.out; omega)).trans H_t_6.out))))
        have H_kinds_40 : Hid (((((W11.setCell ⟨w.heap.size, 0, none⟩ (.int .u8 0)).setCell ⟨w.heap.size, 1, none⟩ (.int .i64 0)).setCell ⟨w.heap.size, 2, none⟩ (.slice none 0 0)).setCell ⟨w.heap.size, 3, none⟩ (.string { data := #[] })).heap[kb]? = some (.cells (kinds.map (Value.int .u8)).toArray 5)) := Lib.hid ((setOff 3 (.string { data := #[] }) (by have := HBT.out; have := HBW.out; have := HNE.out; have := HL2.out; have := HL3.out; have := HZ5.out; have := HL34.out; have := HL35.out; have := HL36.out; omega)).trans ((setOff 2 (.slice none 0 0) (by have := HBT.out; have := HBW.out; have := HNE.out; have := HL2.out; have := HL3.out; have := HZ5.out; have := HL34.out; have := HL35.out; have := HL36.out; omega)).trans ((setOff 1 (.int .i64 0) (by have := HBT.out; have := HBW.out; have := HNE.out; have := HL2.out; have := HL3.out; have := HZ5.out; have := HL34.out; have := HL35.out; have := HL36.out; omega)).trans ((setOff 0 (.int .u8 0) (by have := HBT.out; have := HBW.out; have := HNE.out; have := HL2.out; have := HL3.out; have := HZ5.out; have := HL34.out; have := HL35.out; have := HL36.out; omega)).trans H_kinds_7.out))))
        have H_res_41 : Hid (((((W11.setCell ⟨w.heap.size, 0, none⟩ (.int .u8 0)).setCell ⟨w.heap.size, 1, none⟩ (.int .i64 0)).setCell ⟨w.heap.size, 2, none⟩ (.slice none 0 0)).setCell ⟨w.heap.size, 3, none⟩ (.string { data := #[] })).heap[w.heap.size]? = some (.cells #[.int .u8 0, .int .i64 0, .slice none 0 0, .string { data := #[] }] 150)) := Lib.hid (setAt (setAt (setAt (setAt H_res_8.out 0 (.int .u8 0)) 1 (.int .i64 0)) 2 (.slice none 0 0)) 3 (.string { data := #[] }))
        have H_pg_42 := Lib.hid (PgB.kept H_pg_9.out hC37.out (by intro k hk; have := HBT.out; have := HBW.out; have := HNE.out; have := HL2.out; have := HL3.out; have := HZ5.out; have := HL34.out; have := HL35.out; have := HL36.out; have := HZ38.out; simp only [List.mem_cons, List.mem_singleton, List.not_mem_nil, or_false] at hk; omega))
        have HE43 := Lib.hid (HE10.out.after hC37.out (by intro k hk; have := HBT.out; have := HBW.out; have := HNE.out; have := HL2.out; have := HL3.out; have := HZ5.out; have := HL34.out; have := HL35.out; have := HL36.out; have := HZ38.out; simp only [List.mem_cons, List.mem_singleton, List.not_mem_nil, or_false] at hk ⊢; omega))
        generalize ((((W11.setCell ⟨w.heap.size, 0, none⟩ (.int .u8 0)).setCell ⟨w.heap.size, 1, none⟩ (.int .i64 0)).setCell ⟨w.heap.size, 2, none⟩ (.slice none 0 0)).setCell ⟨w.heap.size, 3, none⟩ (.string { data := #[] })) = W44 at *
        have c_res_0 : W44.cell? ⟨w.heap.size, 0, none⟩ = some (.int .u8 0) := cellAt H_res_41.out 0
        have c_res_1 : W44.cell? ⟨w.heap.size, 1, none⟩ = some (.int .i64 0) := cellAt H_res_41.out 1
        have c_res_2 : W44.cell? ⟨w.heap.size, 2, none⟩ = some (.slice none 0 0) := cellAt H_res_41.out 2
        have c_res_3 : W44.cell? ⟨w.heap.size, 3, none⟩ = some (.string { data := #[] }) := cellAt H_res_41.out 3
        exact bodyPost_ret (v := .tuple #[.agg #[.int .u8 0, .int .i64 0, .slice none 0 0, .string { data := #[] }], .int .i64 7]) (by simp [results, Tryz.results144, go_sem, c_res_0, c_res_1, c_res_2, c_res_3]; try rfl) rfl (ReadPost.mk (.slice none 0 0) (by rw [HRN.out]; rfl) (by rw [HRN.out]; exact World.ownsRow_nil _ _ _ _) H_t_39.out HE43.out)
      ·
        have HRD2 : Hid (readN base tx left n kinds = (takeN (tx.view base n)).bind fun x => if kinds.contains x.kind then some x else none) := Lib.hid (by rw [HRD.out, if_neg (by omega)])
        have c_t_0 : W11.cell? ⟨tb, 0, none⟩ = some (ptr pb) := cellAt H_t_6.out 0
        have c_t_1 : W11.cell? ⟨tb, 1, none⟩ = some (.int .i64 (left - 1)) := cellAt H_t_6.out 1
        go_wp2_with fail
        clear c_t_0 c_t_1
        go_at_call 42; refine (read_in H_pg_9.out.pg n (by omega) (by omega)).mono ?_; rintro e W45 ⟨rfl, hb⟩
        have hC46 := Lib.hid (Chg.of_below hb [])
        have HZ47 := Lib.hid hC46.out.size
        have H_t_48 := Lib.hid (hC46.out.get H_t_6.out (by simp))
        have H_kinds_49 := Lib.hid (hC46.out.get H_kinds_7.out (by simp))
        have H_res_50 := Lib.hid (hC46.out.get H_res_8.out (by simp))
        have H_pg_51 := Lib.hid (PgB.kept H_pg_9.out hC46.out (by simp))
        have HE52 := Lib.hid (HE10.out.after hC46.out (by simp))
        clear hb
        generalize tx.view base n = V at *
        go_wp2_with fail
        have HL53 := Lib.hid (lt_of_block H_t_48.out)
        have HL54 := Lib.hid (lt_of_block H_kinds_49.out)
        have HL55 := Lib.hid (lt_of_block H_res_50.out)
        go_at_call 123; refine (ntake_any _ _ HVL.out).mono ?_; rintro e W56 ⟨v, rfl, hrow, hb⟩
        have HROW := Lib.hid hrow
        clear hrow
        have hC57 := Lib.hid (Chg.of_below hb [])
        have HZ58 := Lib.hid hC57.out.size
        have H_t_59 := Lib.hid (hC57.out.get H_t_48.out (by simp))
        have H_kinds_60 := Lib.hid (hC57.out.get H_kinds_49.out (by simp))
        have H_res_61 := Lib.hid (hC57.out.get H_res_50.out (by simp))
        have H_pg_62 := Lib.hid (PgB.kept H_pg_51.out hC57.out (by simp))
        have HE63 := Lib.hid (HE52.out.after hC57.out (by simp))
        clear hb
        rcases htk : takeN V with _ | x
        ·
          have hrd : readN base tx left n kinds = none := by rw [HRD2.out, htk]; rfl
          have HRN := Lib.hid hrd
          clear hrd
          obtain ⟨sa, scap, rfl⟩ := (rowCells HROW.out).slice
          simp only [htk, Option.getD_none, Option.isSome_none, List.length_nil, Bool.false_eq_true, if_false]
          clear htk
          have c_res_0 : W56.cell? ⟨w.heap.size, 0, none⟩ = some (.int .u8 0) := cellAt H_res_61.out 0
          have c_res_1 : W56.cell? ⟨w.heap.size, 1, none⟩ = some (.int .i64 0) := cellAt H_res_61.out 1
          have c_res_2 : W56.cell? ⟨w.heap.size, 2, none⟩ = some (.slice none 0 0) := cellAt H_res_61.out 2
          have c_res_3 : W56.cell? ⟨w.heap.size, 3, none⟩ = some (.string { data := #[] }) := cellAt H_res_61.out 3
          have f_res_0 : W56.frozen? ⟨w.heap.size, 0, none⟩ = false := freeAt H_res_61.out 0
          have f_res_1 : W56.frozen? ⟨w.heap.size, 1, none⟩ = false := freeAt H_res_61.out 1
          have f_res_2 : W56.frozen? ⟨w.heap.size, 2, none⟩ = false := freeAt H_res_61.out 2
          have f_res_3 : W56.frozen? ⟨w.heap.size, 3, none⟩ = false := freeAt H_res_61.out 3
          have fr : ∀ o i, (W56.alloc o).frozen? ⟨w.heap.size, i, none⟩ = false := fun o i => freeAt (heapOld H_res_61.out _) i
          have cr := fun o => (cellAt (heapOld H_res_61.out o) : ∀ i, (W56.alloc o).cell? ⟨w.heap.size, i, none⟩ = _)
          go_wp2_with fail
          clear c_res_0 c_res_1 c_res_2 c_res_3 f_res_0 f_res_1 f_res_2 f_res_3
          clear fr cr
          have HL64 := Lib.hid (lt_of_block H_t_59.out)
          have HL65 := Lib.hid (lt_of_block H_kinds_60.out)
          have HL66 := Lib.hid (lt_of_block H_res_61.out)
          have hC67 : Hid (Chg [w.heap.size] W56 (((((W56.alloc (.cells #[.int .u8 0, .int .i64 0, .slice sa 0 scap, vs []] 150)).setCell ⟨w.heap.size, 0, none⟩ (.int .u8 0)).setCell ⟨w.heap.size, 1, none⟩ (.int .i64 0)).setCell ⟨w.heap.size, 2, none⟩ (.slice none 0 0)).setCell ⟨w.heap.size, 3, none⟩ (.string { data := #[] }))) := Lib.hid ((((((Chg.refl [w.heap.size] W56).alloc (.cells #[.int .u8 0, .int .i64 0, .slice sa 0 scap, vs []] 150)).setCell (.inl (by simp)) (.int .u8 0)).setCell (.inl (by simp)) (.int .i64 0)).setCell (.inl (by simp)) (.slice none 0 0)).setCell (.inl (by simp)) (.string { data := #[] }))
          have HZ68 := Lib.hid hC67.out.size
          have H_t_69 : Hid ((((((W56.alloc (.cells #[.int .u8 0, .int .i64 0, .slice sa 0 scap, vs []] 150)).setCell ⟨w.heap.size, 0, none⟩ (.int .u8 0)).setCell ⟨w.heap.size, 1, none⟩ (.int .i64 0)).setCell ⟨w.heap.size, 2, none⟩ (.slice none 0 0)).setCell ⟨w.heap.size, 3, none⟩ (.string { data := #[] })).heap[tb]? = some (.cells #[ptr pb, .int .i64 (left - 1)] 213)) := Lib.hid ((setOff 3 (.string { data := #[] }) (by have := HBT.out; have := HBW.out; have := HNE.out; have := HL2.out; have := HL3.out; have := HZ5.out; have := HZ47.out; have := HL53.out; have := HL54.out; have := HL55.out; have := HZ58.out; have := HL64.out; have := HL65.out; have := HL66.out; omega)).trans ((setOff 2 (.slice none 0 0) (by have := HBT.out; have := HBW.out; have := HNE.out; have := HL2.out; have := HL3.out; have := HZ5.out; have := HZ47.out; have := HL53.out; have := HL54.out; have := HL55.out; have := HZ58.out; have := HL64.out; have := HL65.out; have := HL66.out; omega)).trans ((setOff 1 (.int .i64 0) (by have := HBT.out; have := HBW.out; have := HNE.out; have := HL2.out; have := HL3.out; have := HZ5.out; have := HZ47.out; have := HL53.out; have := HL54.out; have := HL55.out; have := HZ58.out; have := HL64.out; have := HL65.out; have := HL66.out; omega)).trans ((setOff 0 (.int .u8 0) (by have := HBT.out; have := HBW.out; have := HNE.out; have := HL2.out; have := HL3.out; have := HZ5.out; have := HZ47.out; have := HL53.out; have := HL54.out; have := HL55.out; have := HZ58.out; have := HL64.out; have := HL65.out; have := HL66.out; omega)).trans (heapOld H_t_59.out (.cells #[.int .u8 0, .int .i64 0, .slice sa 0 scap, vs []] 150))))))
          have H_kinds_70 : Hid ((((((W56.alloc (.cells #[.int .u8 0, .int .i64 0, .slice sa 0 scap, vs []] 150)).setCell ⟨w.heap.size, 0, none⟩ (.int .u8 0)).setCell ⟨w.heap.size, 1, none⟩ (.int .i64 0)).setCell ⟨w.heap.size, 2, none⟩ (.slice none 0 0)).setCell ⟨w.heap.size, 3, none⟩ (.string { data := #[] })).heap[kb]? = some (.cells (kinds.map (Value.int .u8)).toArray 5)) := Lib.hid ((setOff 3 (.string { data := #[] }) (by have := HBT.out; have := HBW.out; have := HNE.out; have := HL2.out; have := HL3.out; have := HZ5.out; have := HZ47.out; have := HL53.out; have := HL54.out; have := HL55.out; have := HZ58.out; have := HL64.out; have := HL65.out; have := HL66.out; omega)).trans ((setOff 2 (.slice none 0 0) (by have := HBT.out; have := HBW.out; have := HNE.out; have := HL2.out; have := HL3.out; have := HZ5.out; have := HZ47.out; have := HL53.out; have := HL54.out; have := HL55.out; have := HZ58.out; have := HL64.out; have := HL65.out; have := HL66.out; omega)).trans ((setOff 1 (.int .i64 0) (by have := HBT.out; have := HBW.out; have := HNE.out; have := HL2.out; have := HL3.out; have := HZ5.out; have := HZ47.out; have := HL53.out; have := HL54.out; have := HL55.out; have := HZ58.out; have := HL64.out; have := HL65.out; have := HL66.out; omega)).trans ((setOff 0 (.int .u8 0) (by have := HBT.out; have := HBW.out; have := HNE.out; have := HL2.out; have := HL3.out; have := HZ5.out; have := HZ47.out; have := HL53.out; have := HL54.out; have := HL55.out; have := HZ58.out; have := HL64.out; have := HL65.out; have := HL66.out; omega)).trans (heapOld H_kinds_60.out (.cells #[.int .u8 0, .int .i64 0, .slice sa 0 scap, vs []] 150))))))
          have H_res_71 : Hid ((((((W56.alloc (.cells #[.int .u8 0, .int .i64 0, .slice sa 0 scap, vs []] 150)).setCell ⟨w.heap.size, 0, none⟩ (.int .u8 0)).setCell ⟨w.heap.size, 1, none⟩ (.int .i64 0)).setCell ⟨w.heap.size, 2, none⟩ (.slice none 0 0)).setCell ⟨w.heap.size, 3, none⟩ (.string { data := #[] })).heap[w.heap.size]? = some (.cells #[.int .u8 0, .int .i64 0, .slice none 0 0, .string { data := #[] }] 150)) := Lib.hid (setAt (setAt (setAt (setAt (heapOld H_res_61.out (.cells #[.int .u8 0, .int .i64 0, .slice sa 0 scap, vs []] 150)) 0 (.int .u8 0)) 1 (.int .i64 0)) 2 (.slice none 0 0)) 3 (.string { data := #[] }))
          have H_x_72 : Hid ((((((W56.alloc (.cells #[.int .u8 0, .int .i64 0, .slice sa 0 scap, vs []] 150)).setCell ⟨w.heap.size, 0, none⟩ (.int .u8 0)).setCell ⟨w.heap.size, 1, none⟩ (.int .i64 0)).setCell ⟨w.heap.size, 2, none⟩ (.slice none 0 0)).setCell ⟨w.heap.size, 3, none⟩ (.string { data := #[] })).heap[W56.heap.size]? = some (.cells #[.int .u8 0, .int .i64 0, .slice sa 0 scap, vs []] 150)) := Lib.hid ((setOff 3 (.string { data := #[] }) (by have := HBT.out; have := HBW.out; have := HNE.out; have := HL2.out; have := HL3.out; have := HZ5.out; have := HZ47.out; have := HL53.out; have := HL54.out; have := HL55.out; have := HZ58.out; have := HL64.out; have := HL65.out; have := HL66.out; omega)).trans ((setOff 2 (.slice none 0 0) (by have := HBT.out; have := HBW.out; have := HNE.out; have := HL2.out; have := HL3.out; have := HZ5.out; have := HZ47.out; have := HL53.out; have := HL54.out; have := HL55.out; have := HZ58.out; have := HL64.out; have := HL65.out; have := HL66.out; omega)).trans ((setOff 1 (.int .i64 0) (by have := HBT.out; have := HBW.out; have := HNE.out; have := HL2.out; have := HL3.out; have := HZ5.out; have := HZ47.out; have := HL53.out; have := HL54.out; have := HL55.out; have := HZ58.out; have := HL64.out; have := HL65.out; have := HL66.out; omega)).trans ((setOff 0 (.int .u8 0) (by have := HBT.out; have := HBW.out; have := HNE.out; have := HL2.out; have := HL3.out; have := HZ5.out; have := HZ47.out; have := HL53.out; have := HL54.out; have := HL55.out; have := HZ58.out; have := HL64.out; have := HL65.out; have := HL66.out; omega)).trans (heapNew (by simp [World.setCell]) (.cells #[.int .u8 0, .int .i64 0, .slice sa 0 scap, vs []] 150))))))
          have H_pg_73 := Lib.hid (PgB.kept H_pg_62.out hC67.out (by intro k hk; have := HBT.out; have := HBW.out; have := HNE.out; have := HL2.out; have := HL3.out; have := HZ5.out; have := HZ47.out; have := HL53.out; have := HL54.out; have := HL55.out; have := HZ58.out; have := HL64.out; have := HL65.out; have := HL66.out; have := HZ68.out; simp only [List.mem_cons, List.mem_singleton, List.not_mem_nil, or_false] at hk; omega))
          have H_row_74 := Lib.hid (ownsRow_chg HROW.out hC67.out (by intro k hk; have := HBT.out; have := HBW.out; have := HNE.out; have := HL2.out; have := HL3.out; have := HZ5.out; have := HZ47.out; have := HL53.out; have := HL54.out; have := HL55.out; have := HZ58.out; have := HL64.out; have := HL65.out; have := HL66.out; have := HZ68.out; simp only [List.mem_cons, List.mem_singleton, List.not_mem_nil, or_false] at hk; omega))
          have HE75 := Lib.hid (HE63.out.after hC67.out (by intro k hk; have := HBT.out; have := HBW.out; have := HNE.out; have := HL2.out; have := HL3.out; have := HZ5.out; have := HZ47.out; have := HL53.out; have := HL54.out; have := HL55.out; have := HZ58.out; have := HL64.out; have := HL65.out; have := HL66.out; have := HZ68.out; simp only [List.mem_cons, List.mem_singleton, List.not_mem_nil, or_false] at hk ⊢; omega))
          generalize (((((W56.alloc (.cells #[.int .u8 0, .int .i64 0, .slice sa 0 scap, vs []] 150)).setCell ⟨w.heap.size, 0, none⟩ (.int .u8 0)).setCell ⟨w.heap.size, 1, none⟩ (.int .i64 0)).setCell ⟨w.heap.size, 2, none⟩ (.slice none 0 0)).setCell ⟨w.heap.size, 3, none⟩ (.string { data := #[] })) = W76 at *
          have c_res_0 : W76.cell? ⟨w.heap.size, 0, none⟩ = some (.int .u8 0) := cellAt H_res_71.out 0
          have c_res_1 : W76.cell? ⟨w.heap.size, 1, none⟩ = some (.int .i64 0) := cellAt H_res_71.out 1
          have c_res_2 : W76.cell? ⟨w.heap.size, 2, none⟩ = some (.slice none 0 0) := cellAt H_res_71.out 2
          have c_res_3 : W76.cell? ⟨w.heap.size, 3, none⟩ = some (.string { data := #[] }) := cellAt H_res_71.out 3
          exact bodyPost_ret (v := .tuple #[.agg #[.int .u8 0, .int .i64 0, .slice none 0 0, .string { data := #[] }], .int .i64 7]) (by simp [results, Tryz.results144, go_sem, c_res_0, c_res_1, c_res_2, c_res_3]; try rfl) rfl (ReadPost.mk (.slice none 0 0) (by rw [HRN.out]; rfl) (by rw [HRN.out]; exact World.ownsRow_nil _ _ _ _) H_t_69.out HE75.out)
        ·
          have HTK := Lib.hid htk
          obtain ⟨sa, scap, rfl⟩ := (rowCells HROW.out).slice
          simp only [htk, Option.getD_some, Option.isSome_some, if_true] at HROW ⊢
          clear htk
          skip
          go_wp2_with fail
          have HL77 := Lib.hid (lt_of_block H_t_59.out)
          have HL78 := Lib.hid (lt_of_block H_kinds_60.out)
          have HL79 := Lib.hid (lt_of_block H_res_61.out)
          have hC80 : Hid (Chg [] W56 (W56.alloc (.cells #[.int .u8 x.kind, .int .i64 x.first, .slice sa x.cells.length scap, vs x.data] 150))) := Lib.hid ((Chg.refl [] W56).alloc (.cells #[.int .u8 x.kind, .int .i64 x.first, .slice sa x.cells.length scap, vs x.data] 150))
          have HZ81 := Lib.hid hC80.out.size
          have H_t_82 : Hid ((W56.alloc (.cells #[.int .u8 x.kind, .int .i64 x.first, .slice sa x.cells.length scap, vs x.data] 150)).heap[tb]? = some (.cells #[ptr pb, .int .i64 (left - 1)] 213)) := Lib.hid (heapOld H_t_59.out (.cells #[.int .u8 x.kind, .int .i64 x.first, .slice sa x.cells.length scap, vs x.data] 150))
          have H_kinds_83 : Hid ((W56.alloc (.cells #[.int .u8 x.kind, .int .i64 x.first, .slice sa x.cells.length scap, vs x.data] 150)).heap[kb]? = some (.cells (kinds.map (Value.int .u8)).toArray 5)) := Lib.hid (heapOld H_kinds_60.out (.cells #[.int .u8 x.kind, .int .i64 x.first, .slice sa x.cells.length scap, vs x.data] 150))
          have H_res_84 : Hid ((W56.alloc (.cells #[.int .u8 x.kind, .int .i64 x.first, .slice sa x.cells.length scap, vs x.data] 150)).heap[w.heap.size]? = some (.cells #[.int .u8 0, .int .i64 0, .slice none 0 0, .string { data := #[] }] 150)) := Lib.hid (heapOld H_res_61.out (.cells #[.int .u8 x.kind, .int .i64 x.first, .slice sa x.cells.length scap, vs x.data] 150))
          have H_x_85 : Hid ((W56.alloc (.cells #[.int .u8 x.kind, .int .i64 x.first, .slice sa x.cells.length scap, vs x.data] 150)).heap[W56.heap.size]? = some (.cells #[.int .u8 x.kind, .int .i64 x.first, .slice sa x.cells.length scap, vs x.data] 150)) := Lib.hid (heapNew (by simp [World.setCell]) (.cells #[.int .u8 x.kind, .int .i64 x.first, .slice sa x.cells.length scap, vs x.data] 150))
          have H_pg_86 := Lib.hid (PgB.kept H_pg_62.out hC80.out (by simp))
          have H_row_87 := Lib.hid (ownsRow_chg HROW.out hC80.out (by simp))
          have HE88 := Lib.hid (HE63.out.after hC80.out (by simp))
          generalize (W56.alloc (.cells #[.int .u8 x.kind, .int .i64 x.first, .slice sa x.cells.length scap, vs x.data] 150)) = W89 at *
          go_at_call 189; refine (contains_u8 kinds x.kind kb 0 kcap _ HL1.out (u8_row H_kinds_83.out)).mono ?_; rintro e w' ⟨rfl, rfl⟩
          cases hct : kinds.contains x.kind with
          | false =>
            have hrd : readN base tx left n kinds = none := by rw [HRD2.out, HTK.out, Option.bind_some, hct]; rfl
            have HRN := Lib.hid hrd
            clear hrd hct
            have c_res_0 : W89.cell? ⟨w.heap.size, 0, none⟩ = some (.int .u8 0) := cellAt H_res_84.out 0
            have c_res_1 : W89.cell? ⟨w.heap.size, 1, none⟩ = some (.int .i64 0) := cellAt H_res_84.out 1
            have c_res_2 : W89.cell? ⟨w.heap.size, 2, none⟩ = some (.slice none 0 0) := cellAt H_res_84.out 2
            have c_res_3 : W89.cell? ⟨w.heap.size, 3, none⟩ = some (.string { data := #[] }) := cellAt H_res_84.out 3
            have f_res_0 : W89.frozen? ⟨w.heap.size, 0, none⟩ = false := freeAt H_res_84.out 0
            have f_res_1 : W89.frozen? ⟨w.heap.size, 1, none⟩ = false := freeAt H_res_84.out 1
            have f_res_2 : W89.frozen? ⟨w.heap.size, 2, none⟩ = false := freeAt H_res_84.out 2
            have f_res_3 : W89.frozen? ⟨w.heap.size, 3, none⟩ = false := freeAt H_res_84.out 3
            go_wp2_with fail
            clear c_res_0 c_res_1 c_res_2 c_res_3 f_res_0 f_res_1 f_res_2 f_res_3
            have HL90 := Lib.hid (lt_of_block H_t_82.out)
            have HL91 := Lib.hid (lt_of_block H_kinds_83.out)
            have HL92 := Lib.hid (lt_of_block H_res_84.out)
            have HL93 := Lib.hid (lt_of_block H_x_85.out)
            have hC94 : Hid (Chg [w.heap.size] W89 ((((W89.setCell ⟨w.heap.size, 0, none⟩ (.int .u8 0)).setCell ⟨w.heap.size, 1, none⟩ (.int .i64 0)).setCell ⟨w.heap.size, 2, none⟩ (.slice none 0 0)).setCell ⟨w.heap.size, 3, none⟩ (.string { data := #[] }))) := Lib.hid (((((Chg.refl [w.heap.size] W89).setCell (.inl (by simp)) (.int .u8 0)).setCell (.inl (by simp)) (.int .i64 0)).setCell (.inl (by simp)) (.slice none 0 0)).setCell (.inl (by simp)) (.string { data := #[] }))
            have HZ95 := Lib.hid hC94.out.size
            have H_t_96 : Hid (((((W89.setCell ⟨w.heap.size, 0, none⟩ (.int .u8 0)).setCell ⟨w.heap.size, 1, none⟩ (.int .i64 0)).setCell ⟨w.heap.size, 2, none⟩ (.slice none 0 0)).setCell ⟨w.heap.size, 3, none⟩ (.string { data := #[] })).heap[tb]? = some (.cells #[ptr pb, .int .i64 (left - 1)] 213)) := Lib.hid ((setOff 3 (.string { data := #[] }) (by have := HBT.out; have := HBW.out; have := HNE.out; have := HL2.out; have := HL3.out; have := HZ5.out; have := HZ47.out; have := HL53.out; have := HL54.out; have := HL55.out; have := HZ58.out; have := HL77.out; have := HL78.out; have := HL79.out; have := HZ81.out; have := HL90.out; have := HL91.out; have := HL92.out; have := HL93.out; omega)).trans ((setOff 2 (.slice none 0 0) (by have := HBT.out; have := HBW.out; have := HNE.out; have := HL2.out; have := HL3.out; have := HZ5.out; have := HZ47.out; have := HL53.out; have := HL54.out; have := HL55.out; have := HZ58.out; have := HL77.out; have := HL78.out; have := HL79.out; have := HZ81.out; have := HL90.out; have := HL91.out; have := HL92.out; have := HL93.out; omega)).trans ((setOff 1 (.int .i64 0) (by have := HBT.out; have := HBW.out; have := HNE.out; have := HL2.out; have := HL3.out; have := HZ5.out; have := HZ47.out; have := HL53.out; have := HL54.out; have := HL55.out; have := HZ58.out; have := HL77.out; have := HL78.out; have := HL79.out; have := HZ81.out; have := HL90.out; have := HL91.out; have := HL92.out; have := HL93.out; omega)).trans ((setOff 0 (.int .u8 0) (by have := HBT.out; have := HBW.out; have := HNE.out; have := HL2.out; have := HL3.out; have := HZ5.out; have := HZ47.out; have := HL53.out; have := HL54.out; have := HL55.out; have := HZ58.out; have := HL77.out; have := HL78.out; have := HL79.out; have := HZ81.out; have := HL90.out; have := HL91.out; have := HL92.out; have := HL93.out; omega)).trans H_t_82.out))))
            have H_kinds_97 : Hid (((((W89.setCell ⟨w.heap.size, 0, none⟩ (.int .u8 0)).setCell ⟨w.heap.size, 1, none⟩ (.int .i64 0)).setCell ⟨w.heap.size, 2, none⟩ (.slice none 0 0)).setCell ⟨w.heap.size, 3, none⟩ (.string { data := #[] })).heap[kb]? = some (.cells (kinds.map (Value.int .u8)).toArray 5)) := Lib.hid ((setOff 3 (.string { data := #[] }) (by have := HBT.out; have := HBW.out; have := HNE.out; have := HL2.out; have := HL3.out; have := HZ5.out; have := HZ47.out; have := HL53.out; have := HL54.out; have := HL55.out; have := HZ58.out; have := HL77.out; have := HL78.out; have := HL79.out; have := HZ81.out; have := HL90.out; have := HL91.out; have := HL92.out; have := HL93.out; omega)).trans ((setOff 2 (.slice none 0 0) (by have := HBT.out; have := HBW.out; have := HNE.out; have := HL2.out; have := HL3.out; have := HZ5.out; have := HZ47.out; have := HL53.out; have := HL54.out; have := HL55.out; have := HZ58.out; have := HL77.out; have := HL78.out; have := HL79.out; have := HZ81.out; have := HL90.out; have := HL91.out; have := HL92.out; have := HL93.out; omega)).trans ((setOff 1 (.int .i64 0) (by have := HBT.out; have := HBW.out; have := HNE.out; have := HL2.out; have := HL3.out; have := HZ5.out; have := HZ47.out; have := HL53.out; have := HL54.out; have := HL55.out; have := HZ58.out; have := HL77.out; have := HL78.out; have := HL79.out; have := HZ81.out; have := HL90.out; have := HL91.out; have := HL92.out; have := HL93.out; omega)).trans ((setOff 0 (.int .u8 0) (by have := HBT.out; have := HBW.out; have := HNE.out; have := HL2.out; have := HL3.out; have := HZ5.out; have := HZ47.out; have := HL53.out; have := HL54.out; have := HL55.out; have := HZ58.out; have := HL77.out; have := HL78.out; have := HL79.out; have := HZ81.out; have := HL90.out; have := HL91.out; have := HL92.out; have := HL93.out; omega)).trans H_kinds_83.out))))
            have H_res_98 : Hid (((((W89.setCell ⟨w.heap.size, 0, none⟩ (.int .u8 0)).setCell ⟨w.heap.size, 1, none⟩ (.int .i64 0)).setCell ⟨w.heap.size, 2, none⟩ (.slice none 0 0)).setCell ⟨w.heap.size, 3, none⟩ (.string { data := #[] })).heap[w.heap.size]? = some (.cells #[.int .u8 0, .int .i64 0, .slice none 0 0, .string { data := #[] }] 150)) := Lib.hid (setAt (setAt (setAt (setAt H_res_84.out 0 (.int .u8 0)) 1 (.int .i64 0)) 2 (.slice none 0 0)) 3 (.string { data := #[] }))
            have H_x_99 : Hid (((((W89.setCell ⟨w.heap.size, 0, none⟩ (.int .u8 0)).setCell ⟨w.heap.size, 1, none⟩ (.int .i64 0)).setCell ⟨w.heap.size, 2, none⟩ (.slice none 0 0)).setCell ⟨w.heap.size, 3, none⟩ (.string { data := #[] })).heap[W56.heap.size]? = some (.cells #[.int .u8 x.kind, .int .i64 x.first, .slice sa x.cells.length scap, vs x.data] 150)) := Lib.hid ((setOff 3 (.string { data := #[] }) (by have := HBT.out; have := HBW.out; have := HNE.out; have := HL2.out; have := HL3.out; have := HZ5.out; have := HZ47.out; have := HL53.out; have := HL54.out; have := HL55.out; have := HZ58.out; have := HL77.out; have := HL78.out; have := HL79.out; have := HZ81.out; have := HL90.out; have := HL91.out; have := HL92.out; have := HL93.out; omega)).trans ((setOff 2 (.slice none 0 0) (by have := HBT.out; have := HBW.out; have := HNE.out; have := HL2.out; have := HL3.out; have := HZ5.out; have := HZ47.out; have := HL53.out; have := HL54.out; have := HL55.out; have := HZ58.out; have := HL77.out; have := HL78.out; have := HL79.out; have := HZ81.out; have := HL90.out; have := HL91.out; have := HL92.out; have := HL93.out; omega)).trans ((setOff 1 (.int .i64 0) (by have := HBT.out; have := HBW.out; have := HNE.out; have := HL2.out; have := HL3.out; have := HZ5.out; have := HZ47.out; have := HL53.out; have := HL54.out; have := HL55.out; have := HZ58.out; have := HL77.out; have := HL78.out; have := HL79.out; have := HZ81.out; have := HL90.out; have := HL91.out; have := HL92.out; have := HL93.out; omega)).trans ((setOff 0 (.int .u8 0) (by have := HBT.out; have := HBW.out; have := HNE.out; have := HL2.out; have := HL3.out; have := HZ5.out; have := HZ47.out; have := HL53.out; have := HL54.out; have := HL55.out; have := HZ58.out; have := HL77.out; have := HL78.out; have := HL79.out; have := HZ81.out; have := HL90.out; have := HL91.out; have := HL92.out; have := HL93.out; omega)).trans H_x_85.out))))
            have H_pg_100 := Lib.hid (PgB.kept H_pg_86.out hC94.out (by intro k hk; have := HBT.out; have := HBW.out; have := HNE.out; have := HL2.out; have := HL3.out; have := HZ5.out; have := HZ47.out; have := HL53.out; have := HL54.out; have := HL55.out; have := HZ58.out; have := HL77.out; have := HL78.out; have := HL79.out; have := HZ81.out; have := HL90.out; have := HL91.out; have := HL92.out; have := HL93.out; have := HZ95.out; simp only [List.mem_cons, List.mem_singleton, List.not_mem_nil, or_false] at hk; omega))
            have H_row_101 := Lib.hid (ownsRow_chg H_row_87.out hC94.out (by intro k hk; have := HBT.out; have := HBW.out; have := HNE.out; have := HL2.out; have := HL3.out; have := HZ5.out; have := HZ47.out; have := HL53.out; have := HL54.out; have := HL55.out; have := HZ58.out; have := HL77.out; have := HL78.out; have := HL79.out; have := HZ81.out; have := HL90.out; have := HL91.out; have := HL92.out; have := HL93.out; have := HZ95.out; simp only [List.mem_cons, List.mem_singleton, List.not_mem_nil, or_false] at hk; omega))
            have HE102 := Lib.hid (HE88.out.after hC94.out (by intro k hk; have := HBT.out; have := HBW.out; have := HNE.out; have := HL2.out; have := HL3.out; have := HZ5.out; have := HZ47.out; have := HL53.out; have := HL54.out; have := HL55.out; have := HZ58.out; have := HL77.out; have := HL78.out; have := HL79.out; have := HZ81.out; have := HL90.out; have := HL91.out; have := HL92.out; have := HL93.out; have := HZ95.out; simp only [List.mem_cons, List.mem_singleton, List.not_mem_nil, or_false] at hk ⊢; omega))
            generalize ((((W89.setCell ⟨w.heap.size, 0, none⟩ (.int .u8 0)).setCell ⟨w.heap.size, 1, none⟩ (.int .i64 0)).setCell ⟨w.heap.size, 2, none⟩ (.slice none 0 0)).setCell ⟨w.heap.size, 3, none⟩ (.string { data := #[] })) = W103 at *
            have c_res_0 : W103.cell? ⟨w.heap.size, 0, none⟩ = some (.int .u8 0) := cellAt H_res_98.out 0
            have c_res_1 : W103.cell? ⟨w.heap.size, 1, none⟩ = some (.int .i64 0) := cellAt H_res_98.out 1
            have c_res_2 : W103.cell? ⟨w.heap.size, 2, none⟩ = some (.slice none 0 0) := cellAt H_res_98.out 2
            have c_res_3 : W103.cell? ⟨w.heap.size, 3, none⟩ = some (.string { data := #[] }) := cellAt H_res_98.out 3
            exact bodyPost_ret (v := .tuple #[.agg #[.int .u8 0, .int .i64 0, .slice none 0 0, .string { data := #[] }], .int .i64 7]) (by simp [results, Tryz.results144, go_sem, c_res_0, c_res_1, c_res_2, c_res_3]; try rfl) rfl (ReadPost.mk (.slice none 0 0) (by rw [HRN.out]; rfl) (by rw [HRN.out]; exact World.ownsRow_nil _ _ _ _) H_t_96.out HE102.out)
          | true =>
            have hrd : readN base tx left n kinds = some x := by rw [HRD2.out, HTK.out, Option.bind_some, hct]; rfl
            have HRN := Lib.hid hrd
            clear hrd hct
            have c_x_0 : W89.cell? ⟨W56.heap.size, 0, none⟩ = some (.int .u8 x.kind) := cellAt H_x_85.out 0
            have c_x_1 : W89.cell? ⟨W56.heap.size, 1, none⟩ = some (.int .i64 x.first) := cellAt H_x_85.out 1
            have c_x_2 : W89.cell? ⟨W56.heap.size, 2, none⟩ = some (.slice sa x.cells.length scap) := cellAt H_x_85.out 2
            have c_x_3 : W89.cell? ⟨W56.heap.size, 3, none⟩ = some (vs x.data) := cellAt H_x_85.out 3
            have c_res_0 : W89.cell? ⟨w.heap.size, 0, none⟩ = some (.int .u8 0) := cellAt H_res_84.out 0
            have c_res_1 : W89.cell? ⟨w.heap.size, 1, none⟩ = some (.int .i64 0) := cellAt H_res_84.out 1
            have c_res_2 : W89.cell? ⟨w.heap.size, 2, none⟩ = some (.slice none 0 0) := cellAt H_res_84.out 2
            have c_res_3 : W89.cell? ⟨w.heap.size, 3, none⟩ = some (.string { data := #[] }) := cellAt H_res_84.out 3
            have f_res_0 : W89.frozen? ⟨w.heap.size, 0, none⟩ = false := freeAt H_res_84.out 0
            have f_res_1 : W89.frozen? ⟨w.heap.size, 1, none⟩ = false := freeAt H_res_84.out 1
            have f_res_2 : W89.frozen? ⟨w.heap.size, 2, none⟩ = false := freeAt H_res_84.out 2
            have f_res_3 : W89.frozen? ⟨w.heap.size, 3, none⟩ = false := freeAt H_res_84.out 3
            go_wp2_with fail
            clear c_x_0 c_x_1 c_x_2 c_x_3 c_res_0 c_res_1 c_res_2 c_res_3 f_res_0 f_res_1 f_res_2 f_res_3
            have HL104 := Lib.hid (lt_of_block H_t_82.out)
            have HL105 := Lib.hid (lt_of_block H_kinds_83.out)
            have HL106 := Lib.hid (lt_of_block H_res_84.out)
            have HL107 := Lib.hid (lt_of_block H_x_85.out)
            have hC108 : Hid (Chg [w.heap.size] W89 ((((W89.setCell ⟨w.heap.size, 0, none⟩ (.int .u8 x.kind)).setCell ⟨w.heap.size, 1, none⟩ (.int .i64 x.first)).setCell ⟨w.heap.size, 2, none⟩ (.slice sa x.cells.length scap)).setCell ⟨w.heap.size, 3, none⟩ (vs x.data))) := Lib.hid (((((Chg.refl [w.heap.size] W89).setCell (.inl (by simp)) (.int .u8 x.kind)).setCell (.inl (by simp)) (.int .i64 x.first)).setCell (.inl (by simp)) (.slice sa x.cells.length scap)).setCell (.inl (by simp)) (vs x.data))
            have HZ109 := Lib.hid hC108.out.size
            have H_t_110 : Hid (((((W89.setCell ⟨w.heap.size, 0, none⟩ (.int .u8 x.kind)).setCell ⟨w.heap.size, 1, none⟩ (.int .i64 x.first)).setCell ⟨w.heap.size, 2, none⟩ (.slice sa x.cells.length scap)).setCell ⟨w.heap.size, 3, none⟩ (vs x.data)).heap[tb]? = some (.cells #[ptr pb, .int .i64 (left - 1)] 213)) := Lib.hid ((setOff 3 (vs x.data) (by have := HBT.out; have := HBW.out; have := HNE.out; have := HL2.out; have := HL3.out; have := HZ5.out; have := HZ47.out; have := HL53.out; have := HL54.out; have := HL55.out; have := HZ58.out; have := HL77.out; have := HL78.out; have := HL79.out; have := HZ81.out; have := HL104.out; have := HL105.out; have := HL106.out; have := HL107.out; omega)).trans ((setOff 2 (.slice sa x.cells.length scap) (by have := HBT.out; have := HBW.out; have := HNE.out; have := HL2.out; have := HL3.out; have := HZ5.out; have := HZ47.out; have := HL53.out; have := HL54.out; have := HL55.out; have := HZ58.out; have := HL77.out; have := HL78.out; have := HL79.out; have := HZ81.out; have := HL104.out; have := HL105.out; have := HL106.out; have := HL107.out; omega)).trans ((setOff 1 (.int .i64 x.first) (by have := HBT.out; have := HBW.out; have := HNE.out; have := HL2.out; have := HL3.out; have := HZ5.out; have := HZ47.out; have := HL53.out; have := HL54.out; have := HL55.out; have := HZ58.out; have := HL77.out; have := HL78.out; have := HL79.out; have := HZ81.out; have := HL104.out; have := HL105.out; have := HL106.out; have := HL107.out; omega)).trans ((setOff 0 (.int .u8 x.kind) (by have := HBT.out; have := HBW.out; have := HNE.out; have := HL2.out; have := HL3.out; have := HZ5.out; have := HZ47.out; have := HL53.out; have := HL54.out; have := HL55.out; have := HZ58.out; have := HL77.out; have := HL78.out; have := HL79.out; have := HZ81.out; have := HL104.out; have := HL105.out; have := HL106.out; have := HL107.out; omega)).trans H_t_82.out))))
            have H_kinds_111 : Hid (((((W89.setCell ⟨w.heap.size, 0, none⟩ (.int .u8 x.kind)).setCell ⟨w.heap.size, 1, none⟩ (.int .i64 x.first)).setCell ⟨w.heap.size, 2, none⟩ (.slice sa x.cells.length scap)).setCell ⟨w.heap.size, 3, none⟩ (vs x.data)).heap[kb]? = some (.cells (kinds.map (Value.int .u8)).toArray 5)) := Lib.hid ((setOff 3 (vs x.data) (by have := HBT.out; have := HBW.out; have := HNE.out; have := HL2.out; have := HL3.out; have := HZ5.out; have := HZ47.out; have := HL53.out; have := HL54.out; have := HL55.out; have := HZ58.out; have := HL77.out; have := HL78.out; have := HL79.out; have := HZ81.out; have := HL104.out; have := HL105.out; have := HL106.out; have := HL107.out; omega)).trans ((setOff 2 (.slice sa x.cells.length scap) (by have := HBT.out; have := HBW.out; have := HNE.out; have := HL2.out; have := HL3.out; have := HZ5.out; have := HZ47.out; have := HL53.out; have := HL54.out; have := HL55.out; have := HZ58.out; have := HL77.out; have := HL78.out; have := HL79.out; have := HZ81.out; have := HL104.out; have := HL105.out; have := HL106.out; have := HL107.out; omega)).trans ((setOff 1 (.int .i64 x.first) (by have := HBT.out; have := HBW.out; have := HNE.out; have := HL2.out; have := HL3.out; have := HZ5.out; have := HZ47.out; have := HL53.out; have := HL54.out; have := HL55.out; have := HZ58.out; have := HL77.out; have := HL78.out; have := HL79.out; have := HZ81.out; have := HL104.out; have := HL105.out; have := HL106.out; have := HL107.out; omega)).trans ((setOff 0 (.int .u8 x.kind) (by have := HBT.out; have := HBW.out; have := HNE.out; have := HL2.out; have := HL3.out; have := HZ5.out; have := HZ47.out; have := HL53.out; have := HL54.out; have := HL55.out; have := HZ58.out; have := HL77.out; have := HL78.out; have := HL79.out; have := HZ81.out; have := HL104.out; have := HL105.out; have := HL106.out; have := HL107.out; omega)).trans H_kinds_83.out))))
            have H_res_112 : Hid (((((W89.setCell ⟨w.heap.size, 0, none⟩ (.int .u8 x.kind)).setCell ⟨w.heap.size, 1, none⟩ (.int .i64 x.first)).setCell ⟨w.heap.size, 2, none⟩ (.slice sa x.cells.length scap)).setCell ⟨w.heap.size, 3, none⟩ (vs x.data)).heap[w.heap.size]? = some (.cells #[.int .u8 x.kind, .int .i64 x.first, .slice sa x.cells.length scap, vs x.data] 150)) := Lib.hid (setAt (setAt (setAt (setAt H_res_84.out 0 (.int .u8 x.kind)) 1 (.int .i64 x.first)) 2 (.slice sa x.cells.length scap)) 3 (vs x.data))
            have H_x_113 : Hid (((((W89.setCell ⟨w.heap.size, 0, none⟩ (.int .u8 x.kind)).setCell ⟨w.heap.size, 1, none⟩ (.int .i64 x.first)).setCell ⟨w.heap.size, 2, none⟩ (.slice sa x.cells.length scap)).setCell ⟨w.heap.size, 3, none⟩ (vs x.data)).heap[W56.heap.size]? = some (.cells #[.int .u8 x.kind, .int .i64 x.first, .slice sa x.cells.length scap, vs x.data] 150)) := Lib.hid ((setOff 3 (vs x.data) (by have := HBT.out; have := HBW.out; have := HNE.out; have := HL2.out; have := HL3.out; have := HZ5.out; have := HZ47.out; have := HL53.out; have := HL54.out; have := HL55.out; have := HZ58.out; have := HL77.out; have := HL78.out; have := HL79.out; have := HZ81.out; have := HL104.out; have := HL105.out; have := HL106.out; have := HL107.out; omega)).trans ((setOff 2 (.slice sa x.cells.length scap) (by have := HBT.out; have := HBW.out; have := HNE.out; have := HL2.out; have := HL3.out; have := HZ5.out; have := HZ47.out; have := HL53.out; have := HL54.out; have := HL55.out; have := HZ58.out; have := HL77.out; have := HL78.out; have := HL79.out; have := HZ81.out; have := HL104.out; have := HL105.out; have := HL106.out; have := HL107.out; omega)).trans ((setOff 1 (.int .i64 x.first) (by have := HBT.out; have := HBW.out; have := HNE.out; have := HL2.out; have := HL3.out; have := HZ5.out; have := HZ47.out; have := HL53.out; have := HL54.out; have := HL55.out; have := HZ58.out; have := HL77.out; have := HL78.out; have := HL79.out; have := HZ81.out; have := HL104.out; have := HL105.out; have := HL106.out; have := HL107.out; omega)).trans ((setOff 0 (.int .u8 x.kind) (by have := HBT.out; have := HBW.out; have := HNE.out; have := HL2.out; have := HL3.out; have := HZ5.out; have := HZ47.out; have := HL53.out; have := HL54.out; have := HL55.out; have := HZ58.out; have := HL77.out; have := HL78.out; have := HL79.out; have := HZ81.out; have := HL104.out; have := HL105.out; have := HL106.out; have := HL107.out; omega)).trans H_x_85.out))))
            have H_pg_114 := Lib.hid (PgB.kept H_pg_86.out hC108.out (by intro k hk; have := HBT.out; have := HBW.out; have := HNE.out; have := HL2.out; have := HL3.out; have := HZ5.out; have := HZ47.out; have := HL53.out; have := HL54.out; have := HL55.out; have := HZ58.out; have := HL77.out; have := HL78.out; have := HL79.out; have := HZ81.out; have := HL104.out; have := HL105.out; have := HL106.out; have := HL107.out; have := HZ109.out; simp only [List.mem_cons, List.mem_singleton, List.not_mem_nil, or_false] at hk; omega))
            have H_row_115 := Lib.hid (ownsRow_chg H_row_87.out hC108.out (by intro k hk; have := HBT.out; have := HBW.out; have := HNE.out; have := HL2.out; have := HL3.out; have := HZ5.out; have := HZ47.out; have := HL53.out; have := HL54.out; have := HL55.out; have := HZ58.out; have := HL77.out; have := HL78.out; have := HL79.out; have := HZ81.out; have := HL104.out; have := HL105.out; have := HL106.out; have := HL107.out; have := HZ109.out; simp only [List.mem_cons, List.mem_singleton, List.not_mem_nil, or_false] at hk; omega))
            have HE116 := Lib.hid (HE88.out.after hC108.out (by intro k hk; have := HBT.out; have := HBW.out; have := HNE.out; have := HL2.out; have := HL3.out; have := HZ5.out; have := HZ47.out; have := HL53.out; have := HL54.out; have := HL55.out; have := HZ58.out; have := HL77.out; have := HL78.out; have := HL79.out; have := HZ81.out; have := HL104.out; have := HL105.out; have := HL106.out; have := HL107.out; have := HZ109.out; simp only [List.mem_cons, List.mem_singleton, List.not_mem_nil, or_false] at hk ⊢; omega))
            generalize ((((W89.setCell ⟨w.heap.size, 0, none⟩ (.int .u8 x.kind)).setCell ⟨w.heap.size, 1, none⟩ (.int .i64 x.first)).setCell ⟨w.heap.size, 2, none⟩ (.slice sa x.cells.length scap)).setCell ⟨w.heap.size, 3, none⟩ (vs x.data)) = W117 at *
            have c_res_0 : W117.cell? ⟨w.heap.size, 0, none⟩ = some (.int .u8 x.kind) := cellAt H_res_112.out 0
            have c_res_1 : W117.cell? ⟨w.heap.size, 1, none⟩ = some (.int .i64 x.first) := cellAt H_res_112.out 1
            have c_res_2 : W117.cell? ⟨w.heap.size, 2, none⟩ = some (.slice sa x.cells.length scap) := cellAt H_res_112.out 2
            have c_res_3 : W117.cell? ⟨w.heap.size, 3, none⟩ = some (vs x.data) := cellAt H_res_112.out 3
            exact bodyPost_ret (v := .tuple #[.agg #[.int .u8 x.kind, .int .i64 x.first, .slice sa x.cells.length scap, vs x.data], .int .i64 0]) (by simp [results, Tryz.results144, go_sem, c_res_0, c_res_1, c_res_2, c_res_3]; try rfl) rfl (ReadPost.mk (.slice sa x.cells.length scap) (by rw [HRN.out]; rfl) (by rw [HRN.out]; exact ownsRow_low H_row_115.out (by have := HBT.out; have := HBW.out; have := HNE.out; have := HL2.out; have := HL3.out; have := HZ5.out; have := HZ47.out; have := HL53.out; have := HL54.out; have := HL55.out; have := HZ58.out; have := HL77.out; have := HL78.out; have := HL79.out; have := HZ81.out; have := HL104.out; have := HL105.out; have := HL106.out; have := HL107.out; have := HZ109.out; omega)) H_t_110.out HE116.out)

end Go.Proofs.YtobmnnihmbdfjaaGreat
