/- What btree.Put and btree.Delete do to a leaf: short texts. -/
import Derived.Test.YtobmnnihmbdfjaaGreatTree3
set_option linter.all false
namespace Go.Proofs.YtobmnnihmbdfjaaGreat
open Go.RowKit

/-- A leaf behind a Put. -/
def putL (l : List CellM) (key text : List UInt8) : List CellM := insC (if isN l key = true then l.eraseIdx (atN l key) else l) (atN l key) ⟨key, text.length, text, 0⟩
def delL (l : List CellM) (key : List UInt8) : List CellM := if isN l key = true then l.eraseIdx (atN l key) else l
/-- A node is answered, with an error's number; only the row of its cells has changed. -/
def NodePost (C : Nat) (v : Value) (y : NodeM) (z : Int) (w : World) (e : Ending) (w' : World) : Prop :=
  ∃ v', e = .returned (.tuple #[nodeV y v', .int .i64 z]) ∧ CRow w' C v' y.cells ∧ Chg (rowB v) w w'
theorem NodePost.mk {C : Nat} {v : Value} {y : NodeM} {z : Int} {w w' : World} {e : Ending} (v' : Value) (h1 : e = .returned (.tuple #[nodeV y v', .int .i64 z])) (h2 : CRow w' C v' y.cells) (h3 : Chg (rowB v) w w') : NodePost C v y z w e w' := ⟨v', h1, h2, h3⟩
theorem crow_type {w : World} {B : Nat} {v : Value} {l : List CellM} (h : CRow w B v l) : ∀ g ∈ rowB v, ∃ cur, w.heap[g]? = some (.cells cur 144 (0, 0)) := by
  intro g hg
  rcases crow_get h with ⟨rfl, -⟩ | ⟨g', cap, cur, rfl, -, hh, -⟩
  · simp [rowB, Value.ownBlock] at hg
  · simp only [rowB, Value.ownBlock, Option.toList_some, List.mem_singleton] at hg
    subst hg; exact ⟨cur, hh⟩
theorem crow_off {w w' : World} {B : Nat} {v : Value} {l : List CellM} {S : List Nat} (h : CRow w B v l) (hc : Chg S w w') (hS : ∀ k ∈ S, k ∉ rowB v) : CRow w' B v l := by
  refine ⟨h.1, ?_⟩
  rcases h.2 with h0 | ⟨g, cap, cur, hv, hb, hh, r⟩
  · exact .inl h0
  · exact .inr ⟨g, cap, cur, hv, hb, hc.get hh (fun hm => hS g hm (by rw [hv]; simp [rowB, Value.ownBlock])), r⟩
theorem isN_lt {l : List CellM} {key : List UInt8} (h : isN l key = true) : atN l key < l.length := by
  simp only [isN, Bool.and_eq_true, decide_eq_true_eq] at h; exact h.1

set_option maxRecDepth 100000 in
set_option maxHeartbeats 8000000 in
theorem delC_no (C : Nat) (x : NodeM) (v : Value) (key : List UInt8) (kb tb : Nat) (w : World) (hr : CRow w C v x.cells) (hCw : C ≤ w.heap.size) (hkb : w.heap[kb]? = some (.cells #[vs key] 9)) (hkC : kb < C) (hso : SortedC x.cells) (hsm : Small x) (hsh : ∀ c ∈ x.cells, Short c) (his : isN x.cells key = false) :
    Calls Tryz.prog 77 #[ptr tb, nodeV x v, ptr kb] w (NodePost C v x 4 w) := by
  have HROW0 := Lib.hid hr
  have HRLO : Hid (∀ g ∈ rowB v, C ≤ g) := Lib.hid (rowB_ge hr)
  have HRHI : Hid (∀ g ∈ rowB v, g < w.heap.size) := Lib.hid (rowB_lt hr)
  have HCW := Lib.hid hCw
  have HKB := Lib.hid hkb
  have HKC := Lib.hid hkC
  have HSO := Lib.hid hso
  have HSM := Lib.hid hsm
  have HSH := Lib.hid hsh
  have HIS := Lib.hid his
  obtain ⟨sa, scap, hv⟩ := (rowCells hr).slice
  clear hr hCw hkb hkC hso hsm hsh his
  obtain ⟨v0, hv0⟩ : ∃ v0, v0 = v := ⟨_, rfl⟩
  have HV0 := Lib.hid hv0
  clear hv0
  have HE1 := Lib.hid (Chg.refl (rowB v) w)
  have HSV : Hid (v = .slice sa x.cells.length scap) := Lib.hid hv
  clear hv
  go_enter Tryz.func77, Tryz.ntmps77
  go_upto_region 1 with fail
  have HL2 := Lib.hid (lt_of_block HKB.out)
  have hC3 : Hid (Chg [] w ((w.alloc (.cells #[.int .u8 x.kind, .int .i64 x.first, v, vs x.data] 150)).alloc (.cells #[.int .u8 0, .int .i64 0, .slice none 0 0, .string { data := #[] }] 150))) := Lib.hid (((Chg.refl [] w).alloc (.cells #[.int .u8 x.kind, .int .i64 x.first, v, vs x.data] 150)).alloc (.cells #[.int .u8 0, .int .i64 0, .slice none 0 0, .string { data := #[] }] 150))
  have HZ4 := Lib.hid hC3.out.size
  have H_kb_5 : Hid (((w.alloc (.cells #[.int .u8 x.kind, .int .i64 x.first, v, vs x.data] 150)).alloc (.cells #[.int .u8 0, .int .i64 0, .slice none 0 0, .string { data := #[] }] 150)).heap[kb]? = some (.cells #[vs key] 9)) := Lib.hid (heapOld (heapOld HKB.out (.cells #[.int .u8 x.kind, .int .i64 x.first, v, vs x.data] 150)) (.cells #[.int .u8 0, .int .i64 0, .slice none 0 0, .string { data := #[] }] 150))
  have H_x_6 : Hid (((w.alloc (.cells #[.int .u8 x.kind, .int .i64 x.first, v, vs x.data] 150)).alloc (.cells #[.int .u8 0, .int .i64 0, .slice none 0 0, .string { data := #[] }] 150)).heap[w.heap.size]? = some (.cells #[.int .u8 x.kind, .int .i64 x.first, v, vs x.data] 150)) := Lib.hid (heapOld (heapNew (by simp [World.setCell]) (.cells #[.int .u8 x.kind, .int .i64 x.first, v, vs x.data] 150)) (.cells #[.int .u8 0, .int .i64 0, .slice none 0 0, .string { data := #[] }] 150))
  have H_res_7 : Hid (((w.alloc (.cells #[.int .u8 x.kind, .int .i64 x.first, v, vs x.data] 150)).alloc (.cells #[.int .u8 0, .int .i64 0, .slice none 0 0, .string { data := #[] }] 150)).heap[w.heap.size + 1]? = some (.cells #[.int .u8 0, .int .i64 0, .slice none 0 0, .string { data := #[] }] 150)) := Lib.hid (heapNew (by simp [World.setCell]) (.cells #[.int .u8 0, .int .i64 0, .slice none 0 0, .string { data := #[] }] 150))
  have H_row_8 := Lib.hid (ownsRow_chg2 HROW0.out HRHI.out hC3.out (by simp))
  have HE9 := Lib.hid (HE1.out.after hC3.out (by simp))
  generalize ((w.alloc (.cells #[.int .u8 x.kind, .int .i64 x.first, v, vs x.data] 150)).alloc (.cells #[.int .u8 0, .int .i64 0, .slice none 0 0, .string { data := #[] }] 150)) = W10 at *
  have c_x_0 : W10.cell? ⟨w.heap.size, 0, none⟩ = some (.int .u8 x.kind) := cellAt H_x_6.out 0
  have c_x_1 : W10.cell? ⟨w.heap.size, 1, none⟩ = some (.int .i64 x.first) := cellAt H_x_6.out 1
  have c_x_2 : W10.cell? ⟨w.heap.size, 2, none⟩ = some (v) := cellAt H_x_6.out 2
  have c_x_3 : W10.cell? ⟨w.heap.size, 3, none⟩ = some (vs x.data) := cellAt H_x_6.out 3
  have c_kb_0 : W10.cell? ⟨kb, 0, none⟩ = some (vs key) := cellAt H_kb_5.out 0
  go_wp2_with fail
  clear c_x_0 c_x_1 c_x_2 c_x_3 c_kb_0
  go_at_call 71; refine (at_any x _ key _ (rowCells H_row_8.out) HSM.out.cells HSO.out).mono ?_; rintro e W11 ⟨rfl, hb⟩
  have hC12 := Lib.hid (Chg.of_below hb [])
  have HZ13 := Lib.hid hC12.out.size
  have H_kb_14 := Lib.hid (hC12.out.get H_kb_5.out (by simp))
  have H_x_15 := Lib.hid (hC12.out.get H_x_6.out (by simp))
  have H_res_16 := Lib.hid (hC12.out.get H_res_7.out (by simp))
  have H_row_17 := Lib.hid (ownsRow_chg2 H_row_8.out HRHI.out hC12.out (by simp))
  have HE18 := Lib.hid (HE9.out.after hC12.out (by simp))
  clear hb
  obtain ⟨i, hi⟩ : ∃ i, i = atN x.cells key := ⟨_, rfl⟩
  have HI := Lib.hid hi
  rw [← hi, HIS.out]
  clear hi
  have hln : x.cells.length ≤ 100000 := HSM.out.cells
  have hi0 : (0 : Int) ≤ (i : Int) := by omega
  have hxc2 : W11.cell? ⟨w.heap.size, 2, none⟩ = some (.slice sa x.cells.length scap) := by rw [← HSV.out]; exact cellAt H_x_15.out 2
  have c_x_0 : W11.cell? ⟨w.heap.size, 0, none⟩ = some (.int .u8 x.kind) := cellAt H_x_15.out 0
  have c_x_1 : W11.cell? ⟨w.heap.size, 1, none⟩ = some (.int .i64 x.first) := cellAt H_x_15.out 1
  have c_x_3 : W11.cell? ⟨w.heap.size, 3, none⟩ = some (vs x.data) := cellAt H_x_15.out 3
  have c_res_0 : W11.cell? ⟨w.heap.size + 1, 0, none⟩ = some (.int .u8 0) := cellAt H_res_16.out 0
  have c_res_1 : W11.cell? ⟨w.heap.size + 1, 1, none⟩ = some (.int .i64 0) := cellAt H_res_16.out 1
  have c_res_2 : W11.cell? ⟨w.heap.size + 1, 2, none⟩ = some (.slice none 0 0) := cellAt H_res_16.out 2
  have c_res_3 : W11.cell? ⟨w.heap.size + 1, 3, none⟩ = some (.string { data := #[] }) := cellAt H_res_16.out 3
  have f_res_0 : W11.frozen? ⟨w.heap.size + 1, 0, none⟩ = false := freeAt H_res_16.out 0
  have f_res_1 : W11.frozen? ⟨w.heap.size + 1, 1, none⟩ = false := freeAt H_res_16.out 1
  have f_res_2 : W11.frozen? ⟨w.heap.size + 1, 2, none⟩ = false := freeAt H_res_16.out 2
  have f_res_3 : W11.frozen? ⟨w.heap.size + 1, 3, none⟩ = false := freeAt H_res_16.out 3
  go_wp2_with fail
  clear c_x_0 c_x_1 c_x_3 c_res_0 c_res_1 c_res_2 c_res_3 f_res_0 f_res_1 f_res_2 f_res_3
  clear hxc2
  have HL19 := Lib.hid (lt_of_block H_kb_14.out)
  have HL20 := Lib.hid (lt_of_block H_x_15.out)
  have HL21 := Lib.hid (lt_of_block H_res_16.out)
  have hC22 : Hid (Chg [w.heap.size + 1] W11 ((((W11.setCell ⟨w.heap.size + 1, 0, none⟩ (.int .u8 x.kind)).setCell ⟨w.heap.size + 1, 1, none⟩ (.int .i64 x.first)).setCell ⟨w.heap.size + 1, 2, none⟩ (.slice sa x.cells.length scap)).setCell ⟨w.heap.size + 1, 3, none⟩ (vs x.data))) := Lib.hid (((((Chg.refl [w.heap.size + 1] W11).setCell (.inl (by simp)) (.int .u8 x.kind)).setCell (.inl (by simp)) (.int .i64 x.first)).setCell (.inl (by simp)) (.slice sa x.cells.length scap)).setCell (.inl (by simp)) (vs x.data))
  have HZ23 := Lib.hid hC22.out.size
  have H_kb_24 : Hid (((((W11.setCell ⟨w.heap.size + 1, 0, none⟩ (.int .u8 x.kind)).setCell ⟨w.heap.size + 1, 1, none⟩ (.int .i64 x.first)).setCell ⟨w.heap.size + 1, 2, none⟩ (.slice sa x.cells.length scap)).setCell ⟨w.heap.size + 1, 3, none⟩ (vs x.data)).heap[kb]? = some (.cells #[vs key] 9)) := Lib.hid ((setOff 3 (vs x.data) (by have := HCW.out; have := HKC.out; have := HL2.out; have := HZ4.out; have := HZ13.out; have := HL19.out; have := HL20.out; have := HL21.out; omega)).trans ((setOff 2 (.slice sa x.cells.length scap) (by have := HCW.out; have := HKC.out; have := HL2.out; have := HZ4.out; have := HZ13.out; have := HL19.out; have := HL20.out; have := HL21.out; omega)).trans ((setOff 1 (.int .i64 x.first) (by have := HCW.out; have := HKC.out; have := HL2.out; have := HZ4.out; have := HZ13.out; have := HL19.out; have := HL20.out; have := HL21.out; omega)).trans ((setOff 0 (.int .u8 x.kind) (by have := HCW.out; have := HKC.out; have := HL2.out; have := HZ4.out; have := HZ13.out; have := HL19.out; have := HL20.out; have := HL21.out; omega)).trans H_kb_14.out))))
  have H_x_25 : Hid (((((W11.setCell ⟨w.heap.size + 1, 0, none⟩ (.int .u8 x.kind)).setCell ⟨w.heap.size + 1, 1, none⟩ (.int .i64 x.first)).setCell ⟨w.heap.size + 1, 2, none⟩ (.slice sa x.cells.length scap)).setCell ⟨w.heap.size + 1, 3, none⟩ (vs x.data)).heap[w.heap.size]? = some (.cells #[.int .u8 x.kind, .int .i64 x.first, v, vs x.data] 150)) := Lib.hid ((setOff 3 (vs x.data) (by have := HCW.out; have := HKC.out; have := HL2.out; have := HZ4.out; have := HZ13.out; have := HL19.out; have := HL20.out; have := HL21.out; omega)).trans ((setOff 2 (.slice sa x.cells.length scap) (by have := HCW.out; have := HKC.out; have := HL2.out; have := HZ4.out; have := HZ13.out; have := HL19.out; have := HL20.out; have := HL21.out; omega)).trans ((setOff 1 (.int .i64 x.first) (by have := HCW.out; have := HKC.out; have := HL2.out; have := HZ4.out; have := HZ13.out; have := HL19.out; have := HL20.out; have := HL21.out; omega)).trans ((setOff 0 (.int .u8 x.kind) (by have := HCW.out; have := HKC.out; have := HL2.out; have := HZ4.out; have := HZ13.out; have := HL19.out; have := HL20.out; have := HL21.out; omega)).trans H_x_15.out))))
  have H_res_26 : Hid (((((W11.setCell ⟨w.heap.size + 1, 0, none⟩ (.int .u8 x.kind)).setCell ⟨w.heap.size + 1, 1, none⟩ (.int .i64 x.first)).setCell ⟨w.heap.size + 1, 2, none⟩ (.slice sa x.cells.length scap)).setCell ⟨w.heap.size + 1, 3, none⟩ (vs x.data)).heap[w.heap.size + 1]? = some (.cells #[.int .u8 x.kind, .int .i64 x.first, .slice sa x.cells.length scap, vs x.data] 150)) := Lib.hid (setAt (setAt (setAt (setAt H_res_16.out 0 (.int .u8 x.kind)) 1 (.int .i64 x.first)) 2 (.slice sa x.cells.length scap)) 3 (vs x.data))
  have H_row_27 := Lib.hid (ownsRow_chg2 H_row_17.out HRHI.out hC22.out (by intro k hk; have := HCW.out; have := HKC.out; have := HL2.out; have := HZ4.out; have := HZ13.out; have := HL19.out; have := HL20.out; have := HL21.out; have := HZ23.out; simp only [List.mem_cons, List.mem_singleton, List.not_mem_nil, or_false] at hk; omega))
  have HE28 := Lib.hid (HE18.out.after hC22.out (by intro k hk; have := HCW.out; have := HKC.out; have := HL2.out; have := HZ4.out; have := HZ13.out; have := HL19.out; have := HL20.out; have := HL21.out; have := HZ23.out; simp only [List.mem_cons, List.mem_singleton, List.not_mem_nil, or_false] at hk ⊢; omega))
  generalize ((((W11.setCell ⟨w.heap.size + 1, 0, none⟩ (.int .u8 x.kind)).setCell ⟨w.heap.size + 1, 1, none⟩ (.int .i64 x.first)).setCell ⟨w.heap.size + 1, 2, none⟩ (.slice sa x.cells.length scap)).setCell ⟨w.heap.size + 1, 3, none⟩ (vs x.data)) = W29 at *
  have c_res_0 : W29.cell? ⟨w.heap.size + 1, 0, none⟩ = some (.int .u8 x.kind) := cellAt H_res_26.out 0
  have c_res_1 : W29.cell? ⟨w.heap.size + 1, 1, none⟩ = some (.int .i64 x.first) := cellAt H_res_26.out 1
  have c_res_2 : W29.cell? ⟨w.heap.size + 1, 2, none⟩ = some (.slice sa x.cells.length scap) := cellAt H_res_26.out 2
  have c_res_3 : W29.cell? ⟨w.heap.size + 1, 3, none⟩ = some (vs x.data) := cellAt H_res_26.out 3
  exact bodyPost_ret (v := .tuple #[.agg #[.int .u8 x.kind, .int .i64 x.first, .slice sa x.cells.length scap, vs x.data], .int .i64 4]) (by simp [results, Tryz.results77, go_sem, c_res_0, c_res_1, c_res_2, c_res_3]; try rfl) rfl (NodePost.mk (.slice sa x.cells.length scap) rfl (by rw [← HSV.out]; exact H_row_27.out) HE28.out)

set_option maxRecDepth 100000 in
set_option maxHeartbeats 8000000 in
theorem delC_yes (C : Nat) (x : NodeM) (v : Value) (key : List UInt8) (kb tb : Nat) (w : World) (hr : CRow w C v x.cells) (hCw : C ≤ w.heap.size) (hkb : w.heap[kb]? = some (.cells #[vs key] 9)) (hkC : kb < C) (hso : SortedC x.cells) (hsm : Small x) (hsh : ∀ c ∈ x.cells, Short c) (his : isN x.cells key = true) :
    Calls Tryz.prog 77 #[ptr tb, nodeV x v, ptr kb] w (NodePost C v ⟨x.kind, x.first, delL x.cells key, x.data⟩ 0 w) := by
  have HROW0 := Lib.hid hr
  have HRLO : Hid (∀ g ∈ rowB v, C ≤ g) := Lib.hid (rowB_ge hr)
  have HRHI : Hid (∀ g ∈ rowB v, g < w.heap.size) := Lib.hid (rowB_lt hr)
  have HCW := Lib.hid hCw
  have HKB := Lib.hid hkb
  have HKC := Lib.hid hkC
  have HSO := Lib.hid hso
  have HSM := Lib.hid hsm
  have HSH := Lib.hid hsh
  have HIS := Lib.hid his
  obtain ⟨sa, scap, hv⟩ := (rowCells hr).slice
  clear hr hCw hkb hkC hso hsm hsh his
  obtain ⟨v0, hv0⟩ : ∃ v0, v0 = v := ⟨_, rfl⟩
  have HV0 := Lib.hid hv0
  clear hv0
  have HE1 := Lib.hid (Chg.refl (rowB v) w)
  have HSV : Hid (v = .slice sa x.cells.length scap) := Lib.hid hv
  clear hv
  go_enter Tryz.func77, Tryz.ntmps77
  go_upto_region 1 with fail
  have HL2 := Lib.hid (lt_of_block HKB.out)
  have hC3 : Hid (Chg [] w ((w.alloc (.cells #[.int .u8 x.kind, .int .i64 x.first, v, vs x.data] 150)).alloc (.cells #[.int .u8 0, .int .i64 0, .slice none 0 0, .string { data := #[] }] 150))) := Lib.hid (((Chg.refl [] w).alloc (.cells #[.int .u8 x.kind, .int .i64 x.first, v, vs x.data] 150)).alloc (.cells #[.int .u8 0, .int .i64 0, .slice none 0 0, .string { data := #[] }] 150))
  have HZ4 := Lib.hid hC3.out.size
  have H_kb_5 : Hid (((w.alloc (.cells #[.int .u8 x.kind, .int .i64 x.first, v, vs x.data] 150)).alloc (.cells #[.int .u8 0, .int .i64 0, .slice none 0 0, .string { data := #[] }] 150)).heap[kb]? = some (.cells #[vs key] 9)) := Lib.hid (heapOld (heapOld HKB.out (.cells #[.int .u8 x.kind, .int .i64 x.first, v, vs x.data] 150)) (.cells #[.int .u8 0, .int .i64 0, .slice none 0 0, .string { data := #[] }] 150))
  have H_x_6 : Hid (((w.alloc (.cells #[.int .u8 x.kind, .int .i64 x.first, v, vs x.data] 150)).alloc (.cells #[.int .u8 0, .int .i64 0, .slice none 0 0, .string { data := #[] }] 150)).heap[w.heap.size]? = some (.cells #[.int .u8 x.kind, .int .i64 x.first, v, vs x.data] 150)) := Lib.hid (heapOld (heapNew (by simp [World.setCell]) (.cells #[.int .u8 x.kind, .int .i64 x.first, v, vs x.data] 150)) (.cells #[.int .u8 0, .int .i64 0, .slice none 0 0, .string { data := #[] }] 150))
  have H_res_7 : Hid (((w.alloc (.cells #[.int .u8 x.kind, .int .i64 x.first, v, vs x.data] 150)).alloc (.cells #[.int .u8 0, .int .i64 0, .slice none 0 0, .string { data := #[] }] 150)).heap[w.heap.size + 1]? = some (.cells #[.int .u8 0, .int .i64 0, .slice none 0 0, .string { data := #[] }] 150)) := Lib.hid (heapNew (by simp [World.setCell]) (.cells #[.int .u8 0, .int .i64 0, .slice none 0 0, .string { data := #[] }] 150))
  have H_row_8 := Lib.hid (ownsRow_chg2 HROW0.out HRHI.out hC3.out (by simp))
  have HE9 := Lib.hid (HE1.out.after hC3.out (by simp))
  generalize ((w.alloc (.cells #[.int .u8 x.kind, .int .i64 x.first, v, vs x.data] 150)).alloc (.cells #[.int .u8 0, .int .i64 0, .slice none 0 0, .string { data := #[] }] 150)) = W10 at *
  have c_x_0 : W10.cell? ⟨w.heap.size, 0, none⟩ = some (.int .u8 x.kind) := cellAt H_x_6.out 0
  have c_x_1 : W10.cell? ⟨w.heap.size, 1, none⟩ = some (.int .i64 x.first) := cellAt H_x_6.out 1
  have c_x_2 : W10.cell? ⟨w.heap.size, 2, none⟩ = some (v) := cellAt H_x_6.out 2
  have c_x_3 : W10.cell? ⟨w.heap.size, 3, none⟩ = some (vs x.data) := cellAt H_x_6.out 3
  have c_kb_0 : W10.cell? ⟨kb, 0, none⟩ = some (vs key) := cellAt H_kb_5.out 0
  go_wp2_with fail
  clear c_x_0 c_x_1 c_x_2 c_x_3 c_kb_0
  go_at_call 71; refine (at_any x _ key _ (rowCells H_row_8.out) HSM.out.cells HSO.out).mono ?_; rintro e W11 ⟨rfl, hb⟩
  have hC12 := Lib.hid (Chg.of_below hb [])
  have HZ13 := Lib.hid hC12.out.size
  have H_kb_14 := Lib.hid (hC12.out.get H_kb_5.out (by simp))
  have H_x_15 := Lib.hid (hC12.out.get H_x_6.out (by simp))
  have H_res_16 := Lib.hid (hC12.out.get H_res_7.out (by simp))
  have H_row_17 := Lib.hid (ownsRow_chg2 H_row_8.out HRHI.out hC12.out (by simp))
  have HE18 := Lib.hid (HE9.out.after hC12.out (by simp))
  clear hb
  obtain ⟨i, hi⟩ : ∃ i, i = atN x.cells key := ⟨_, rfl⟩
  have HI := Lib.hid hi
  rw [← hi, HIS.out]
  clear hi
  have hilt : i < x.cells.length := by rw [HI.out]; exact isN_lt HIS.out
  have hln : x.cells.length ≤ 100000 := HSM.out.cells
  have hi0 : (0 : Int) ≤ (i : Int) := by omega
  have hi1 : (i : Int) < (x.cells.length : Int) := by omega
  have hw1 : IntKind.i64.wrap ((i : Int) + 1) = (i : Int) + 1 := by rw [IntKind.wrap_i64]; omega
  have HILT := Lib.hid hilt
  obtain ⟨c, hc⟩ : ∃ c, x.cells[i]? = some c := ⟨_, List.getElem?_eq_getElem hilt⟩
  have HSC := Lib.hid (HSH.out c (List.mem_of_getElem? hc))
  rcases rowCells H_row_17.out with ⟨-, h0⟩ | ⟨b, off, cap', hvv, hbl, hcs⟩
  · rw [h0] at hilt; simp at hilt
  obtain ⟨k0, k1, k2, k3⟩ := hcs i c hc
  have HVV : Hid (v = .slice (some ⟨b, off, none⟩) x.cells.length cap') := Lib.hid hvv
  clear hcs hc hbl hvv
  have c_x_19 : W11.cell? ⟨w.heap.size, 2, none⟩ = some (.slice (some ⟨b, off, none⟩) x.cells.length cap') := by rw [← HVV.out]; exact cellAt H_x_15.out 2
  go_wp2_with fail
  clear k0 k1 k2 k3 c_x_19
  go_at_call 72; refine (tfree_short c HSC.out _ _).mono ?_; rintro e W20 ⟨rfl, hb⟩
  have hC21 := Lib.hid (Chg.of_below hb [])
  have HZ22 := Lib.hid hC21.out.size
  have H_kb_23 := Lib.hid (hC21.out.get H_kb_14.out (by simp))
  have H_x_24 := Lib.hid (hC21.out.get H_x_15.out (by simp))
  have H_res_25 := Lib.hid (hC21.out.get H_res_16.out (by simp))
  have H_row_26 := Lib.hid (ownsRow_chg2 H_row_17.out HRHI.out hC21.out (by simp))
  have HE27 := Lib.hid (HE18.out.after hC21.out (by simp))
  clear hb
  have c_x_2 : W20.cell? ⟨w.heap.size, 2, none⟩ = some (v) := cellAt H_x_24.out 2
  go_wp2_with fail
  clear c_x_2
  go_at_call 73; refine (sdel C v x.cells i _ H_row_26.out HILT.out HSM.out.cells).mono ?_; rintro e W28 ⟨v1, rfl, hr1, hc1, hb1⟩
  have HR1 := Lib.hid hr1
  have HB1 := Lib.hid hb1
  clear hr1 hb1
  have hC29 := Lib.hid hc1
  have HZ30 := Lib.hid hC29.out.size
  have H_kb_31 := Lib.hid (hC29.out.get H_kb_23.out (fun hm => by have q1 := HRLO.out _ hm; have q2 := HRHI.out _ hm; have := HCW.out; have := HKC.out; have := HL2.out; have := HZ4.out; have := HZ13.out; have := HZ22.out; have := HZ30.out; omega))
  have H_x_32 := Lib.hid (hC29.out.get H_x_24.out (fun hm => by have q1 := HRLO.out _ hm; have q2 := HRHI.out _ hm; have := HCW.out; have := HKC.out; have := HL2.out; have := HZ4.out; have := HZ13.out; have := HZ22.out; have := HZ30.out; omega))
  have H_res_33 := Lib.hid (hC29.out.get H_res_25.out (fun hm => by have q1 := HRLO.out _ hm; have q2 := HRHI.out _ hm; have := HCW.out; have := HKC.out; have := HL2.out; have := HZ4.out; have := HZ13.out; have := HZ22.out; have := HZ30.out; omega))
  have HE34 := Lib.hid (HE27.out.after hC29.out (fun k hk => by first | exact .inl (by simp [hk]) | exact .inl (by skip) | exact .inr (by have q1 := HRLO.out k hk; have := HCW.out; have := HKC.out; have := HL2.out; have := HZ4.out; have := HZ13.out; have := HZ22.out; have := HZ30.out; omega)))
  clear hc1
  have HRHI1 : Hid (∀ g ∈ rowB v1, g < w.heap.size) := Lib.hid (by rw [HB1.out]; exact HRHI.out)
  obtain ⟨sa1, sc1, hv1⟩ := (rowCells HR1.out).slice
  have HSV1 := Lib.hid hv1
  clear hv1
  clear hilt
  have hel : (x.cells.eraseIdx i).length = x.cells.length - 1 := by rw [List.length_eraseIdx, if_pos HILT.out]
  have HEL := Lib.hid hel
  clear hel
  have c_x_2 : W28.cell? ⟨w.heap.size, 2, none⟩ = some (v) := cellAt H_x_32.out 2
  have f_x_2 : W28.frozen? ⟨w.heap.size, 2, none⟩ = false := freeAt H_x_32.out 2
  clear c_x_2 f_x_2
  have HS1 : Hid (v1 = .slice sa1 (x.cells.length - 1) sc1) := Lib.hid (by rw [HSV1.out, HEL.out])
  have hs1 := HS1.out
  subst hs1
  have c_x_0 : W28.cell? ⟨w.heap.size, 0, none⟩ = some (.int .u8 x.kind) := cellAt H_x_32.out 0
  have c_x_1 : W28.cell? ⟨w.heap.size, 1, none⟩ = some (.int .i64 x.first) := cellAt H_x_32.out 1
  have c_x_2 : W28.cell? ⟨w.heap.size, 2, none⟩ = some (v) := cellAt H_x_32.out 2
  have c_x_3 : W28.cell? ⟨w.heap.size, 3, none⟩ = some (vs x.data) := cellAt H_x_32.out 3
  have f_x_2 : W28.frozen? ⟨w.heap.size, 2, none⟩ = false := freeAt H_x_32.out 2
  have c_res_0 : W28.cell? ⟨w.heap.size + 1, 0, none⟩ = some (.int .u8 0) := cellAt H_res_33.out 0
  have c_res_1 : W28.cell? ⟨w.heap.size + 1, 1, none⟩ = some (.int .i64 0) := cellAt H_res_33.out 1
  have c_res_2 : W28.cell? ⟨w.heap.size + 1, 2, none⟩ = some (.slice none 0 0) := cellAt H_res_33.out 2
  have c_res_3 : W28.cell? ⟨w.heap.size + 1, 3, none⟩ = some (.string { data := #[] }) := cellAt H_res_33.out 3
  have f_res_0 : W28.frozen? ⟨w.heap.size + 1, 0, none⟩ = false := freeAt H_res_33.out 0
  have f_res_1 : W28.frozen? ⟨w.heap.size + 1, 1, none⟩ = false := freeAt H_res_33.out 1
  have f_res_2 : W28.frozen? ⟨w.heap.size + 1, 2, none⟩ = false := freeAt H_res_33.out 2
  have f_res_3 : W28.frozen? ⟨w.heap.size + 1, 3, none⟩ = false := freeAt H_res_33.out 3
  have HL35 := Lib.hid (lt_of_block H_kb_31.out)
  have HL36 := Lib.hid (lt_of_block H_x_32.out)
  have HL37 := Lib.hid (lt_of_block H_res_33.out)
  have p_res_0 : (W28.setCell ⟨w.heap.size, 2, none⟩ (.slice sa1 (x.cells.length - 1) sc1)).cell? ⟨w.heap.size + 1, 0, none⟩ = some (.int .u8 0) := cellAt ((setOff 2 (.slice sa1 (x.cells.length - 1) sc1) (by have := HCW.out; have := HKC.out; have := HL2.out; have := HZ4.out; have := HZ13.out; have := HZ22.out; have := HZ30.out; have := HL35.out; have := HL36.out; have := HL37.out; omega)).trans H_res_33.out) 0
  have p_res_1 : (W28.setCell ⟨w.heap.size, 2, none⟩ (.slice sa1 (x.cells.length - 1) sc1)).cell? ⟨w.heap.size + 1, 1, none⟩ = some (.int .i64 0) := cellAt ((setOff 2 (.slice sa1 (x.cells.length - 1) sc1) (by have := HCW.out; have := HKC.out; have := HL2.out; have := HZ4.out; have := HZ13.out; have := HZ22.out; have := HZ30.out; have := HL35.out; have := HL36.out; have := HL37.out; omega)).trans H_res_33.out) 1
  have p_res_2 : (W28.setCell ⟨w.heap.size, 2, none⟩ (.slice sa1 (x.cells.length - 1) sc1)).cell? ⟨w.heap.size + 1, 2, none⟩ = some (.slice none 0 0) := cellAt ((setOff 2 (.slice sa1 (x.cells.length - 1) sc1) (by have := HCW.out; have := HKC.out; have := HL2.out; have := HZ4.out; have := HZ13.out; have := HZ22.out; have := HZ30.out; have := HL35.out; have := HL36.out; have := HL37.out; omega)).trans H_res_33.out) 2
  have p_res_3 : (W28.setCell ⟨w.heap.size, 2, none⟩ (.slice sa1 (x.cells.length - 1) sc1)).cell? ⟨w.heap.size + 1, 3, none⟩ = some (.string { data := #[] }) := cellAt ((setOff 2 (.slice sa1 (x.cells.length - 1) sc1) (by have := HCW.out; have := HKC.out; have := HL2.out; have := HZ4.out; have := HZ13.out; have := HZ22.out; have := HZ30.out; have := HL35.out; have := HL36.out; have := HL37.out; omega)).trans H_res_33.out) 3
  have fpr : ∀ j, (W28.setCell ⟨w.heap.size, 2, none⟩ (.slice sa1 (x.cells.length - 1) sc1)).frozen? ⟨w.heap.size + 1, j, none⟩ = false := fun j => freeAt ((setOff 2 (.slice sa1 (x.cells.length - 1) sc1) (by have := HCW.out; have := HKC.out; have := HL2.out; have := HZ4.out; have := HZ13.out; have := HZ22.out; have := HZ30.out; have := HL35.out; have := HL36.out; have := HL37.out; omega)).trans H_res_33.out) j
  go_wp2_with fail
  clear c_x_0 c_x_1 c_x_2 c_x_3 f_x_2 c_res_0 c_res_1 c_res_2 c_res_3 f_res_0 f_res_1 f_res_2 f_res_3 p_res_0 p_res_1 p_res_2 p_res_3
  clear fpr
  have HL38 := Lib.hid (lt_of_block H_kb_31.out)
  have HL39 := Lib.hid (lt_of_block H_x_32.out)
  have HL40 := Lib.hid (lt_of_block H_res_33.out)
  have hC41 : Hid (Chg [w.heap.size, w.heap.size + 1] W28 (((((W28.setCell ⟨w.heap.size, 2, none⟩ (.slice sa1 (x.cells.length - 1) sc1)).setCell ⟨w.heap.size + 1, 0, none⟩ (.int .u8 x.kind)).setCell ⟨w.heap.size + 1, 1, none⟩ (.int .i64 x.first)).setCell ⟨w.heap.size + 1, 2, none⟩ (.slice sa1 (x.cells.length - 1) sc1)).setCell ⟨w.heap.size + 1, 3, none⟩ (vs x.data))) := Lib.hid ((((((Chg.refl [w.heap.size, w.heap.size + 1] W28).setCell (.inl (by simp)) (.slice sa1 (x.cells.length - 1) sc1)).setCell (.inl (by simp)) (.int .u8 x.kind)).setCell (.inl (by simp)) (.int .i64 x.first)).setCell (.inl (by simp)) (.slice sa1 (x.cells.length - 1) sc1)).setCell (.inl (by simp)) (vs x.data))
  have HZ42 := Lib.hid hC41.out.size
  have H_kb_43 : Hid ((((((W28.setCell ⟨w.heap.size, 2, none⟩ (.slice sa1 (x.cells.length - 1) sc1)).setCell ⟨w.heap.size + 1, 0, none⟩ (.int .u8 x.kind)).setCell ⟨w.heap.size + 1, 1, none⟩ (.int .i64 x.first)).setCell ⟨w.heap.size + 1, 2, none⟩ (.slice sa1 (x.cells.length - 1) sc1)).setCell ⟨w.heap.size + 1, 3, none⟩ (vs x.data)).heap[kb]? = some (.cells #[vs key] 9)) := Lib.hid ((setOff 3 (vs x.data) (by have := HCW.out; have := HKC.out; have := HL2.out; have := HZ4.out; have := HZ13.out; have := HZ22.out; have := HZ30.out; have := HL35.out; have := HL36.out; have := HL37.out; have := HL38.out; have := HL39.out; have := HL40.out; omega)).trans ((setOff 2 (.slice sa1 (x.cells.length - 1) sc1) (by have := HCW.out; have := HKC.out; have := HL2.out; have := HZ4.out; have := HZ13.out; have := HZ22.out; have := HZ30.out; have := HL35.out; have := HL36.out; have := HL37.out; have := HL38.out; have := HL39.out; have := HL40.out; omega)).trans ((setOff 1 (.int .i64 x.first) (by have := HCW.out; have := HKC.out; have := HL2.out; have := HZ4.out; have := HZ13.out; have := HZ22.out; have := HZ30.out; have := HL35.out; have := HL36.out; have := HL37.out; have := HL38.out; have := HL39.out; have := HL40.out; omega)).trans ((setOff 0 (.int .u8 x.kind) (by have := HCW.out; have := HKC.out; have := HL2.out; have := HZ4.out; have := HZ13.out; have := HZ22.out; have := HZ30.out; have := HL35.out; have := HL36.out; have := HL37.out; have := HL38.out; have := HL39.out; have := HL40.out; omega)).trans ((setOff 2 (.slice sa1 (x.cells.length - 1) sc1) (by have := HCW.out; have := HKC.out; have := HL2.out; have := HZ4.out; have := HZ13.out; have := HZ22.out; have := HZ30.out; have := HL35.out; have := HL36.out; have := HL37.out; have := HL38.out; have := HL39.out; have := HL40.out; omega)).trans H_kb_31.out)))))
  have H_x_44 : Hid ((((((W28.setCell ⟨w.heap.size, 2, none⟩ (.slice sa1 (x.cells.length - 1) sc1)).setCell ⟨w.heap.size + 1, 0, none⟩ (.int .u8 x.kind)).setCell ⟨w.heap.size + 1, 1, none⟩ (.int .i64 x.first)).setCell ⟨w.heap.size + 1, 2, none⟩ (.slice sa1 (x.cells.length - 1) sc1)).setCell ⟨w.heap.size + 1, 3, none⟩ (vs x.data)).heap[w.heap.size]? = some (.cells #[.int .u8 x.kind, .int .i64 x.first, .slice sa1 (x.cells.length - 1) sc1, vs x.data] 150)) := Lib.hid ((setOff 3 (vs x.data) (by have := HCW.out; have := HKC.out; have := HL2.out; have := HZ4.out; have := HZ13.out; have := HZ22.out; have := HZ30.out; have := HL35.out; have := HL36.out; have := HL37.out; have := HL38.out; have := HL39.out; have := HL40.out; omega)).trans ((setOff 2 (.slice sa1 (x.cells.length - 1) sc1) (by have := HCW.out; have := HKC.out; have := HL2.out; have := HZ4.out; have := HZ13.out; have := HZ22.out; have := HZ30.out; have := HL35.out; have := HL36.out; have := HL37.out; have := HL38.out; have := HL39.out; have := HL40.out; omega)).trans ((setOff 1 (.int .i64 x.first) (by have := HCW.out; have := HKC.out; have := HL2.out; have := HZ4.out; have := HZ13.out; have := HZ22.out; have := HZ30.out; have := HL35.out; have := HL36.out; have := HL37.out; have := HL38.out; have := HL39.out; have := HL40.out; omega)).trans ((setOff 0 (.int .u8 x.kind) (by have := HCW.out; have := HKC.out; have := HL2.out; have := HZ4.out; have := HZ13.out; have := HZ22.out; have := HZ30.out; have := HL35.out; have := HL36.out; have := HL37.out; have := HL38.out; have := HL39.out; have := HL40.out; omega)).trans (setAt H_x_32.out 2 (.slice sa1 (x.cells.length - 1) sc1))))))
  have H_res_45 : Hid ((((((W28.setCell ⟨w.heap.size, 2, none⟩ (.slice sa1 (x.cells.length - 1) sc1)).setCell ⟨w.heap.size + 1, 0, none⟩ (.int .u8 x.kind)).setCell ⟨w.heap.size + 1, 1, none⟩ (.int .i64 x.first)).setCell ⟨w.heap.size + 1, 2, none⟩ (.slice sa1 (x.cells.length - 1) sc1)).setCell ⟨w.heap.size + 1, 3, none⟩ (vs x.data)).heap[w.heap.size + 1]? = some (.cells #[.int .u8 x.kind, .int .i64 x.first, .slice sa1 (x.cells.length - 1) sc1, vs x.data] 150)) := Lib.hid (setAt (setAt (setAt (setAt ((setOff 2 (.slice sa1 (x.cells.length - 1) sc1) (by have := HCW.out; have := HKC.out; have := HL2.out; have := HZ4.out; have := HZ13.out; have := HZ22.out; have := HZ30.out; have := HL35.out; have := HL36.out; have := HL37.out; have := HL38.out; have := HL39.out; have := HL40.out; omega)).trans H_res_33.out) 0 (.int .u8 x.kind)) 1 (.int .i64 x.first)) 2 (.slice sa1 (x.cells.length - 1) sc1)) 3 (vs x.data))
  have H_row_46 := Lib.hid (ownsRow_chg2 HR1.out HRHI1.out hC41.out (by intro k hk; have := HCW.out; have := HKC.out; have := HL2.out; have := HZ4.out; have := HZ13.out; have := HZ22.out; have := HZ30.out; have := HL35.out; have := HL36.out; have := HL37.out; have := HL38.out; have := HL39.out; have := HL40.out; have := HZ42.out; simp only [List.mem_cons, List.mem_singleton, List.not_mem_nil, or_false] at hk; omega))
  have HE47 := Lib.hid (HE34.out.after hC41.out (by intro k hk; have := HCW.out; have := HKC.out; have := HL2.out; have := HZ4.out; have := HZ13.out; have := HZ22.out; have := HZ30.out; have := HL35.out; have := HL36.out; have := HL37.out; have := HL38.out; have := HL39.out; have := HL40.out; have := HZ42.out; simp only [List.mem_cons, List.mem_singleton, List.not_mem_nil, or_false] at hk ⊢; omega))
  generalize (((((W28.setCell ⟨w.heap.size, 2, none⟩ (.slice sa1 (x.cells.length - 1) sc1)).setCell ⟨w.heap.size + 1, 0, none⟩ (.int .u8 x.kind)).setCell ⟨w.heap.size + 1, 1, none⟩ (.int .i64 x.first)).setCell ⟨w.heap.size + 1, 2, none⟩ (.slice sa1 (x.cells.length - 1) sc1)).setCell ⟨w.heap.size + 1, 3, none⟩ (vs x.data)) = W48 at *
  have c_res_0 : W48.cell? ⟨w.heap.size + 1, 0, none⟩ = some (.int .u8 x.kind) := cellAt H_res_45.out 0
  have c_res_1 : W48.cell? ⟨w.heap.size + 1, 1, none⟩ = some (.int .i64 x.first) := cellAt H_res_45.out 1
  have c_res_2 : W48.cell? ⟨w.heap.size + 1, 2, none⟩ = some (.slice sa1 (x.cells.length - 1) sc1) := cellAt H_res_45.out 2
  have c_res_3 : W48.cell? ⟨w.heap.size + 1, 3, none⟩ = some (vs x.data) := cellAt H_res_45.out 3
  exact bodyPost_ret (v := .tuple #[.agg #[.int .u8 x.kind, .int .i64 x.first, .slice sa1 (x.cells.length - 1) sc1, vs x.data], .int .i64 0]) (by simp [results, Tryz.results77, go_sem, c_res_0, c_res_1, c_res_2, c_res_3]; try rfl) rfl (NodePost.mk (.slice sa1 (x.cells.length - 1) sc1) rfl (by rw [delL, HIS.out, if_pos rfl, ← HI.out]; exact H_row_46.out) HE47.out)

set_option maxRecDepth 100000 in
set_option maxHeartbeats 8000000 in
theorem putC_no (C : Nat) (x : NodeM) (v : Value) (key text : List UInt8) (kb xb tb : Nat) (w : World) (hr : CRow w C v x.cells) (hCw : C ≤ w.heap.size) (hkb : w.heap[kb]? = some (.cells #[vs key] 9)) (hkC : kb < C) (htb : w.heap[xb]? = some (.cells #[vs text] 9)) (htC : xb < C) (htl : text.length ≤ 100) (hso : SortedC x.cells) (hsm : Small x) (hsh : ∀ c ∈ x.cells, Short c) (his : isN x.cells key = false) :
    Calls Tryz.prog 70 #[ptr tb, nodeV x v, ptr kb, ptr xb] w (NodePost C v ⟨x.kind, x.first, putL x.cells key text, x.data⟩ 0 w) := by
  have HROW0 := Lib.hid hr
  have HRLO : Hid (∀ g ∈ rowB v, C ≤ g) := Lib.hid (rowB_ge hr)
  have HRHI : Hid (∀ g ∈ rowB v, g < w.heap.size) := Lib.hid (rowB_lt hr)
  have HCW := Lib.hid hCw
  have HKB := Lib.hid hkb
  have HKC := Lib.hid hkC
  have HSO := Lib.hid hso
  have HSM := Lib.hid hsm
  have HSH := Lib.hid hsh
  have HIS := Lib.hid his
  have HTB := Lib.hid htb
  have HTC := Lib.hid htC
  have HTL := Lib.hid htl
  obtain ⟨sa, scap, hv⟩ := (rowCells hr).slice
  clear hr hCw hkb hkC hso hsm hsh his htb htC htl
  obtain ⟨v0, hv0⟩ : ∃ v0, v0 = v := ⟨_, rfl⟩
  have HV0 := Lib.hid hv0
  clear hv0
  have HE1 := Lib.hid (Chg.refl (rowB v) w)
  have HSV : Hid (v = .slice sa x.cells.length scap) := Lib.hid hv
  clear hv
  go_enter Tryz.func70, Tryz.ntmps70
  go_upto_region 1 with fail
  have HL2 := Lib.hid (lt_of_block HKB.out)
  have HL3 := Lib.hid (lt_of_block HTB.out)
  have hC4 : Hid (Chg [] w ((w.alloc (.cells #[.int .u8 x.kind, .int .i64 x.first, v, vs x.data] 150)).alloc (.cells #[.int .u8 0, .int .i64 0, .slice none 0 0, .string { data := #[] }] 150))) := Lib.hid (((Chg.refl [] w).alloc (.cells #[.int .u8 x.kind, .int .i64 x.first, v, vs x.data] 150)).alloc (.cells #[.int .u8 0, .int .i64 0, .slice none 0 0, .string { data := #[] }] 150))
  have HZ5 := Lib.hid hC4.out.size
  have H_kb_6 : Hid (((w.alloc (.cells #[.int .u8 x.kind, .int .i64 x.first, v, vs x.data] 150)).alloc (.cells #[.int .u8 0, .int .i64 0, .slice none 0 0, .string { data := #[] }] 150)).heap[kb]? = some (.cells #[vs key] 9)) := Lib.hid (heapOld (heapOld HKB.out (.cells #[.int .u8 x.kind, .int .i64 x.first, v, vs x.data] 150)) (.cells #[.int .u8 0, .int .i64 0, .slice none 0 0, .string { data := #[] }] 150))
  have H_xb_7 : Hid (((w.alloc (.cells #[.int .u8 x.kind, .int .i64 x.first, v, vs x.data] 150)).alloc (.cells #[.int .u8 0, .int .i64 0, .slice none 0 0, .string { data := #[] }] 150)).heap[xb]? = some (.cells #[vs text] 9)) := Lib.hid (heapOld (heapOld HTB.out (.cells #[.int .u8 x.kind, .int .i64 x.first, v, vs x.data] 150)) (.cells #[.int .u8 0, .int .i64 0, .slice none 0 0, .string { data := #[] }] 150))
  have H_x_8 : Hid (((w.alloc (.cells #[.int .u8 x.kind, .int .i64 x.first, v, vs x.data] 150)).alloc (.cells #[.int .u8 0, .int .i64 0, .slice none 0 0, .string { data := #[] }] 150)).heap[w.heap.size]? = some (.cells #[.int .u8 x.kind, .int .i64 x.first, v, vs x.data] 150)) := Lib.hid (heapOld (heapNew (by simp [World.setCell]) (.cells #[.int .u8 x.kind, .int .i64 x.first, v, vs x.data] 150)) (.cells #[.int .u8 0, .int .i64 0, .slice none 0 0, .string { data := #[] }] 150))
  have H_res_9 : Hid (((w.alloc (.cells #[.int .u8 x.kind, .int .i64 x.first, v, vs x.data] 150)).alloc (.cells #[.int .u8 0, .int .i64 0, .slice none 0 0, .string { data := #[] }] 150)).heap[w.heap.size + 1]? = some (.cells #[.int .u8 0, .int .i64 0, .slice none 0 0, .string { data := #[] }] 150)) := Lib.hid (heapNew (by simp [World.setCell]) (.cells #[.int .u8 0, .int .i64 0, .slice none 0 0, .string { data := #[] }] 150))
  have H_row_10 := Lib.hid (ownsRow_chg2 HROW0.out HRHI.out hC4.out (by simp))
  have HE11 := Lib.hid (HE1.out.after hC4.out (by simp))
  generalize ((w.alloc (.cells #[.int .u8 x.kind, .int .i64 x.first, v, vs x.data] 150)).alloc (.cells #[.int .u8 0, .int .i64 0, .slice none 0 0, .string { data := #[] }] 150)) = W12 at *
  have c_x_0 : W12.cell? ⟨w.heap.size, 0, none⟩ = some (.int .u8 x.kind) := cellAt H_x_8.out 0
  have c_x_1 : W12.cell? ⟨w.heap.size, 1, none⟩ = some (.int .i64 x.first) := cellAt H_x_8.out 1
  have c_x_2 : W12.cell? ⟨w.heap.size, 2, none⟩ = some (v) := cellAt H_x_8.out 2
  have c_x_3 : W12.cell? ⟨w.heap.size, 3, none⟩ = some (vs x.data) := cellAt H_x_8.out 3
  have c_kb_0 : W12.cell? ⟨kb, 0, none⟩ = some (vs key) := cellAt H_kb_6.out 0
  go_wp2_with fail
  clear c_x_0 c_x_1 c_x_2 c_x_3 c_kb_0
  go_at_call 71; refine (at_any x _ key _ (rowCells H_row_10.out) HSM.out.cells HSO.out).mono ?_; rintro e W13 ⟨rfl, hb⟩
  have hC14 := Lib.hid (Chg.of_below hb [])
  have HZ15 := Lib.hid hC14.out.size
  have H_kb_16 := Lib.hid (hC14.out.get H_kb_6.out (by simp))
  have H_xb_17 := Lib.hid (hC14.out.get H_xb_7.out (by simp))
  have H_x_18 := Lib.hid (hC14.out.get H_x_8.out (by simp))
  have H_res_19 := Lib.hid (hC14.out.get H_res_9.out (by simp))
  have H_row_20 := Lib.hid (ownsRow_chg2 H_row_10.out HRHI.out hC14.out (by simp))
  have HE21 := Lib.hid (HE11.out.after hC14.out (by simp))
  clear hb
  obtain ⟨i, hi⟩ : ∃ i, i = atN x.cells key := ⟨_, rfl⟩
  have HI := Lib.hid hi
  rw [← hi, HIS.out]
  clear hi
  have hln : x.cells.length ≤ 100000 := HSM.out.cells
  have hi0 : (0 : Int) ≤ (i : Int) := by omega
  have H_x_22 : Hid (W13.heap[w.heap.size]? = some (.cells #[.int .u8 x.kind, .int .i64 x.first, .slice sa x.cells.length scap, vs x.data] 150)) := Lib.hid (by rw [← HSV.out]; exact H_x_18.out)
  have HR_23 : Hid (CRow W13 C (.slice sa x.cells.length scap) x.cells) := Lib.hid (by rw [← HSV.out]; exact H_row_20.out)
  have HRHI2 : Hid (∀ g ∈ rowB (.slice sa x.cells.length scap), g < w.heap.size) := Lib.hid (by rw [← HSV.out]; exact HRHI.out)
  have HRLO2 : Hid (∀ g ∈ rowB (.slice sa x.cells.length scap), C ≤ g) := Lib.hid (by rw [← HSV.out]; exact HRLO.out)
  have c_kb_0 : W13.cell? ⟨kb, 0, none⟩ = some (vs key) := cellAt H_kb_16.out 0
  have c_xb_0 : W13.cell? ⟨xb, 0, none⟩ = some (vs text) := cellAt H_xb_17.out 0
  go_wp2_with fail
  clear c_kb_0 c_xb_0
  go_at_call 67; refine (tcell_short key text HTL.out _ _).mono ?_; rintro e W24 ⟨rfl, hb⟩
  have hC25 := Lib.hid (Chg.of_below hb [])
  have HZ26 := Lib.hid hC25.out.size
  have H_kb_27 := Lib.hid (hC25.out.get H_kb_16.out (by simp))
  have H_xb_28 := Lib.hid (hC25.out.get H_xb_17.out (by simp))
  have H_x_29 := Lib.hid (hC25.out.get H_x_22.out (by simp))
  have H_res_30 := Lib.hid (hC25.out.get H_res_19.out (by simp))
  have H_row_31 := Lib.hid (ownsRow_chg2 HR_23.out HRHI2.out hC25.out (by simp))
  have HE32 := Lib.hid (HE21.out.after hC25.out (by simp))
  clear hb
  have o_x_2_1 : (W24.alloc (.cells #[vs key, .int .i64 text.length, vs text, .int .i64 0] 144)).cell? ⟨w.heap.size, 2, none⟩ = some (.slice sa x.cells.length scap) := cellAt (heapOld H_x_29.out (.cells #[vs key, .int .i64 text.length, vs text, .int .i64 0] 144)) 2
  go_wp2_with fail
  clear o_x_2_1
  have HL33 := Lib.hid (lt_of_block H_kb_27.out)
  have HL34 := Lib.hid (lt_of_block H_xb_28.out)
  have HL35 := Lib.hid (lt_of_block H_x_29.out)
  have HL36 := Lib.hid (lt_of_block H_res_30.out)
  have hC37 : Hid (Chg [] W24 ((W24.alloc (.cells #[vs key, .int .i64 text.length, vs text, .int .i64 0] 144)).alloc (.cells #[vs key, .int .i64 text.length, vs text, .int .i64 0] 144))) := Lib.hid (((Chg.refl [] W24).alloc (.cells #[vs key, .int .i64 text.length, vs text, .int .i64 0] 144)).alloc (.cells #[vs key, .int .i64 text.length, vs text, .int .i64 0] 144))
  have HZ38 := Lib.hid hC37.out.size
  have H_kb_39 : Hid (((W24.alloc (.cells #[vs key, .int .i64 text.length, vs text, .int .i64 0] 144)).alloc (.cells #[vs key, .int .i64 text.length, vs text, .int .i64 0] 144)).heap[kb]? = some (.cells #[vs key] 9)) := Lib.hid (heapOld (heapOld H_kb_27.out (.cells #[vs key, .int .i64 text.length, vs text, .int .i64 0] 144)) (.cells #[vs key, .int .i64 text.length, vs text, .int .i64 0] 144))
  have H_xb_40 : Hid (((W24.alloc (.cells #[vs key, .int .i64 text.length, vs text, .int .i64 0] 144)).alloc (.cells #[vs key, .int .i64 text.length, vs text, .int .i64 0] 144)).heap[xb]? = some (.cells #[vs text] 9)) := Lib.hid (heapOld (heapOld H_xb_28.out (.cells #[vs key, .int .i64 text.length, vs text, .int .i64 0] 144)) (.cells #[vs key, .int .i64 text.length, vs text, .int .i64 0] 144))
  have H_x_41 : Hid (((W24.alloc (.cells #[vs key, .int .i64 text.length, vs text, .int .i64 0] 144)).alloc (.cells #[vs key, .int .i64 text.length, vs text, .int .i64 0] 144)).heap[w.heap.size]? = some (.cells #[.int .u8 x.kind, .int .i64 x.first, .slice sa x.cells.length scap, vs x.data] 150)) := Lib.hid (heapOld (heapOld H_x_29.out (.cells #[vs key, .int .i64 text.length, vs text, .int .i64 0] 144)) (.cells #[vs key, .int .i64 text.length, vs text, .int .i64 0] 144))
  have H_res_42 : Hid (((W24.alloc (.cells #[vs key, .int .i64 text.length, vs text, .int .i64 0] 144)).alloc (.cells #[vs key, .int .i64 text.length, vs text, .int .i64 0] 144)).heap[w.heap.size + 1]? = some (.cells #[.int .u8 0, .int .i64 0, .slice none 0 0, .string { data := #[] }] 150)) := Lib.hid (heapOld (heapOld H_res_30.out (.cells #[vs key, .int .i64 text.length, vs text, .int .i64 0] 144)) (.cells #[vs key, .int .i64 text.length, vs text, .int .i64 0] 144))
  have H_c_43 : Hid (((W24.alloc (.cells #[vs key, .int .i64 text.length, vs text, .int .i64 0] 144)).alloc (.cells #[vs key, .int .i64 text.length, vs text, .int .i64 0] 144)).heap[W24.heap.size]? = some (.cells #[vs key, .int .i64 text.length, vs text, .int .i64 0] 144)) := Lib.hid (heapOld (heapNew (by simp [World.setCell]) (.cells #[vs key, .int .i64 text.length, vs text, .int .i64 0] 144)) (.cells #[vs key, .int .i64 text.length, vs text, .int .i64 0] 144))
  have H_vb_44 : Hid (((W24.alloc (.cells #[vs key, .int .i64 text.length, vs text, .int .i64 0] 144)).alloc (.cells #[vs key, .int .i64 text.length, vs text, .int .i64 0] 144)).heap[W24.heap.size + 1]? = some (.cells #[vs key, .int .i64 text.length, vs text, .int .i64 0] 144)) := Lib.hid (heapNew (by simp [World.setCell]) (.cells #[vs key, .int .i64 text.length, vs text, .int .i64 0] 144))
  have H_row_45 := Lib.hid (ownsRow_chg2 H_row_31.out HRHI2.out hC37.out (by simp))
  have HE46 := Lib.hid (HE32.out.after hC37.out (by simp))
  generalize ((W24.alloc (.cells #[vs key, .int .i64 text.length, vs text, .int .i64 0] 144)).alloc (.cells #[vs key, .int .i64 text.length, vs text, .int .i64 0] 144)) = W47 at *
  have HL48 := Lib.hid (lt_of_block H_kb_39.out)
  have HL49 := Lib.hid (lt_of_block H_xb_40.out)
  have HL50 := Lib.hid (lt_of_block H_x_41.out)
  have HL51 := Lib.hid (lt_of_block H_res_42.out)
  have HL52 := Lib.hid (lt_of_block H_c_43.out)
  have HL53 := Lib.hid (lt_of_block H_vb_44.out)
  go_at_call 74; refine (sins C (.slice sa x.cells.length scap) x.cells i (⟨key, text.length, text, 0⟩ : CellM) (W24.heap.size + 1) _ H_row_45.out (by have := HCW.out; have := HKC.out; have := HTC.out; have := HL2.out; have := HL3.out; have := HZ5.out; have := HZ15.out; have := HZ26.out; have := HL33.out; have := HL34.out; have := HL35.out; have := HL36.out; have := HZ38.out; have := HL48.out; have := HL49.out; have := HL50.out; have := HL51.out; have := HL52.out; have := HL53.out; omega) H_vb_44.out (fun hm => by have q := HRHI2.out _ hm; have := HCW.out; have := HKC.out; have := HTC.out; have := HL2.out; have := HL3.out; have := HZ5.out; have := HZ15.out; have := HZ26.out; have := HL33.out; have := HL34.out; have := HL35.out; have := HL36.out; have := HZ38.out; have := HL48.out; have := HL49.out; have := HL50.out; have := HL51.out; have := HL52.out; have := HL53.out; omega) (by have := atN_le x.cells key; have := HSM.out.cells; have := HI.out; omega) (by have := atN_le x.cells key; have := HSM.out.cells; have := HI.out; omega)).mono ?_; rintro e W54 ⟨v2, rfl, hr2, hc2⟩
  have HR2 := Lib.hid hr2
  clear hr2
  have hC55 := Lib.hid hc2
  have HZ56 := Lib.hid hC55.out.size
  have H_kb_57 := Lib.hid (hC55.out.get H_kb_39.out (fun hm => by have q1 := HRLO2.out _ hm; have q2 := HRHI2.out _ hm; have := HCW.out; have := HKC.out; have := HTC.out; have := HL2.out; have := HL3.out; have := HZ5.out; have := HZ15.out; have := HZ26.out; have := HL33.out; have := HL34.out; have := HL35.out; have := HL36.out; have := HZ38.out; have := HL48.out; have := HL49.out; have := HL50.out; have := HL51.out; have := HL52.out; have := HL53.out; have := HZ56.out; omega))
  have H_xb_58 := Lib.hid (hC55.out.get H_xb_40.out (fun hm => by have q1 := HRLO2.out _ hm; have q2 := HRHI2.out _ hm; have := HCW.out; have := HKC.out; have := HTC.out; have := HL2.out; have := HL3.out; have := HZ5.out; have := HZ15.out; have := HZ26.out; have := HL33.out; have := HL34.out; have := HL35.out; have := HL36.out; have := HZ38.out; have := HL48.out; have := HL49.out; have := HL50.out; have := HL51.out; have := HL52.out; have := HL53.out; have := HZ56.out; omega))
  have H_x_59 := Lib.hid (hC55.out.get H_x_41.out (fun hm => by have q1 := HRLO2.out _ hm; have q2 := HRHI2.out _ hm; have := HCW.out; have := HKC.out; have := HTC.out; have := HL2.out; have := HL3.out; have := HZ5.out; have := HZ15.out; have := HZ26.out; have := HL33.out; have := HL34.out; have := HL35.out; have := HL36.out; have := HZ38.out; have := HL48.out; have := HL49.out; have := HL50.out; have := HL51.out; have := HL52.out; have := HL53.out; have := HZ56.out; omega))
  have H_res_60 := Lib.hid (hC55.out.get H_res_42.out (fun hm => by have q1 := HRLO2.out _ hm; have q2 := HRHI2.out _ hm; have := HCW.out; have := HKC.out; have := HTC.out; have := HL2.out; have := HL3.out; have := HZ5.out; have := HZ15.out; have := HZ26.out; have := HL33.out; have := HL34.out; have := HL35.out; have := HL36.out; have := HZ38.out; have := HL48.out; have := HL49.out; have := HL50.out; have := HL51.out; have := HL52.out; have := HL53.out; have := HZ56.out; omega))
  have H_c_61 := Lib.hid (hC55.out.get H_c_43.out (fun hm => by have q1 := HRLO2.out _ hm; have q2 := HRHI2.out _ hm; have := HCW.out; have := HKC.out; have := HTC.out; have := HL2.out; have := HL3.out; have := HZ5.out; have := HZ15.out; have := HZ26.out; have := HL33.out; have := HL34.out; have := HL35.out; have := HL36.out; have := HZ38.out; have := HL48.out; have := HL49.out; have := HL50.out; have := HL51.out; have := HL52.out; have := HL53.out; have := HZ56.out; omega))
  have H_vb_62 := Lib.hid (hC55.out.get H_vb_44.out (fun hm => by have q1 := HRLO2.out _ hm; have q2 := HRHI2.out _ hm; have := HCW.out; have := HKC.out; have := HTC.out; have := HL2.out; have := HL3.out; have := HZ5.out; have := HZ15.out; have := HZ26.out; have := HL33.out; have := HL34.out; have := HL35.out; have := HL36.out; have := HZ38.out; have := HL48.out; have := HL49.out; have := HL50.out; have := HL51.out; have := HL52.out; have := HL53.out; have := HZ56.out; omega))
  have HE63 := Lib.hid (HE46.out.after hC55.out (fun k hk => by first | exact .inl (by simp [hk]) | exact .inl (by rw [HSV.out]; exact hk) | exact .inr (by have q1 := HRLO2.out k hk; have := HCW.out; have := HKC.out; have := HTC.out; have := HL2.out; have := HL3.out; have := HZ5.out; have := HZ15.out; have := HZ26.out; have := HL33.out; have := HL34.out; have := HL35.out; have := HL36.out; have := HZ38.out; have := HL48.out; have := HL49.out; have := HL50.out; have := HL51.out; have := HL52.out; have := HL53.out; have := HZ56.out; omega)))
  clear hc2
  obtain ⟨sa2, sc2, hv2⟩ := (rowCells HR2.out).slice
  have hv2' : v2 = .slice sa2 (x.cells.length + 1) sc2 := by rw [hv2, insC_len _ _ _ (by have := atN_le x.cells key; have := HSM.out.cells; have := HI.out; omega)]
  subst hv2'
  clear hv2
  have c_x_0 : W54.cell? ⟨w.heap.size, 0, none⟩ = some (.int .u8 x.kind) := cellAt H_x_59.out 0
  have c_x_1 : W54.cell? ⟨w.heap.size, 1, none⟩ = some (.int .i64 x.first) := cellAt H_x_59.out 1
  have c_x_2 : W54.cell? ⟨w.heap.size, 2, none⟩ = some (.slice sa x.cells.length scap) := cellAt H_x_59.out 2
  have c_x_3 : W54.cell? ⟨w.heap.size, 3, none⟩ = some (vs x.data) := cellAt H_x_59.out 3
  have f_x_2 : W54.frozen? ⟨w.heap.size, 2, none⟩ = false := freeAt H_x_59.out 2
  have c_res_0 : W54.cell? ⟨w.heap.size + 1, 0, none⟩ = some (.int .u8 0) := cellAt H_res_60.out 0
  have c_res_1 : W54.cell? ⟨w.heap.size + 1, 1, none⟩ = some (.int .i64 0) := cellAt H_res_60.out 1
  have c_res_2 : W54.cell? ⟨w.heap.size + 1, 2, none⟩ = some (.slice none 0 0) := cellAt H_res_60.out 2
  have c_res_3 : W54.cell? ⟨w.heap.size + 1, 3, none⟩ = some (.string { data := #[] }) := cellAt H_res_60.out 3
  have f_res_0 : W54.frozen? ⟨w.heap.size + 1, 0, none⟩ = false := freeAt H_res_60.out 0
  have f_res_1 : W54.frozen? ⟨w.heap.size + 1, 1, none⟩ = false := freeAt H_res_60.out 1
  have f_res_2 : W54.frozen? ⟨w.heap.size + 1, 2, none⟩ = false := freeAt H_res_60.out 2
  have f_res_3 : W54.frozen? ⟨w.heap.size + 1, 3, none⟩ = false := freeAt H_res_60.out 3
  have HL64 := Lib.hid (lt_of_block H_kb_57.out)
  have HL65 := Lib.hid (lt_of_block H_xb_58.out)
  have HL66 := Lib.hid (lt_of_block H_x_59.out)
  have HL67 := Lib.hid (lt_of_block H_res_60.out)
  have HL68 := Lib.hid (lt_of_block H_c_61.out)
  have HL69 := Lib.hid (lt_of_block H_vb_62.out)
  have p_res_0 : (W54.setCell ⟨w.heap.size, 2, none⟩ (.slice sa2 (x.cells.length + 1) sc2)).cell? ⟨w.heap.size + 1, 0, none⟩ = some (.int .u8 0) := cellAt ((setOff 2 (.slice sa2 (x.cells.length + 1) sc2) (by have := HCW.out; have := HKC.out; have := HTC.out; have := HL2.out; have := HL3.out; have := HZ5.out; have := HZ15.out; have := HZ26.out; have := HL33.out; have := HL34.out; have := HL35.out; have := HL36.out; have := HZ38.out; have := HL48.out; have := HL49.out; have := HL50.out; have := HL51.out; have := HL52.out; have := HL53.out; have := HZ56.out; have := HL64.out; have := HL65.out; have := HL66.out; have := HL67.out; have := HL68.out; have := HL69.out; omega)).trans H_res_60.out) 0
  have p_res_1 : (W54.setCell ⟨w.heap.size, 2, none⟩ (.slice sa2 (x.cells.length + 1) sc2)).cell? ⟨w.heap.size + 1, 1, none⟩ = some (.int .i64 0) := cellAt ((setOff 2 (.slice sa2 (x.cells.length + 1) sc2) (by have := HCW.out; have := HKC.out; have := HTC.out; have := HL2.out; have := HL3.out; have := HZ5.out; have := HZ15.out; have := HZ26.out; have := HL33.out; have := HL34.out; have := HL35.out; have := HL36.out; have := HZ38.out; have := HL48.out; have := HL49.out; have := HL50.out; have := HL51.out; have := HL52.out; have := HL53.out; have := HZ56.out; have := HL64.out; have := HL65.out; have := HL66.out; have := HL67.out; have := HL68.out; have := HL69.out; omega)).trans H_res_60.out) 1
  have p_res_2 : (W54.setCell ⟨w.heap.size, 2, none⟩ (.slice sa2 (x.cells.length + 1) sc2)).cell? ⟨w.heap.size + 1, 2, none⟩ = some (.slice none 0 0) := cellAt ((setOff 2 (.slice sa2 (x.cells.length + 1) sc2) (by have := HCW.out; have := HKC.out; have := HTC.out; have := HL2.out; have := HL3.out; have := HZ5.out; have := HZ15.out; have := HZ26.out; have := HL33.out; have := HL34.out; have := HL35.out; have := HL36.out; have := HZ38.out; have := HL48.out; have := HL49.out; have := HL50.out; have := HL51.out; have := HL52.out; have := HL53.out; have := HZ56.out; have := HL64.out; have := HL65.out; have := HL66.out; have := HL67.out; have := HL68.out; have := HL69.out; omega)).trans H_res_60.out) 2
  have p_res_3 : (W54.setCell ⟨w.heap.size, 2, none⟩ (.slice sa2 (x.cells.length + 1) sc2)).cell? ⟨w.heap.size + 1, 3, none⟩ = some (.string { data := #[] }) := cellAt ((setOff 2 (.slice sa2 (x.cells.length + 1) sc2) (by have := HCW.out; have := HKC.out; have := HTC.out; have := HL2.out; have := HL3.out; have := HZ5.out; have := HZ15.out; have := HZ26.out; have := HL33.out; have := HL34.out; have := HL35.out; have := HL36.out; have := HZ38.out; have := HL48.out; have := HL49.out; have := HL50.out; have := HL51.out; have := HL52.out; have := HL53.out; have := HZ56.out; have := HL64.out; have := HL65.out; have := HL66.out; have := HL67.out; have := HL68.out; have := HL69.out; omega)).trans H_res_60.out) 3
  have fpr : ∀ j, (W54.setCell ⟨w.heap.size, 2, none⟩ (.slice sa2 (x.cells.length + 1) sc2)).frozen? ⟨w.heap.size + 1, j, none⟩ = false := fun j => freeAt ((setOff 2 (.slice sa2 (x.cells.length + 1) sc2) (by have := HCW.out; have := HKC.out; have := HTC.out; have := HL2.out; have := HL3.out; have := HZ5.out; have := HZ15.out; have := HZ26.out; have := HL33.out; have := HL34.out; have := HL35.out; have := HL36.out; have := HZ38.out; have := HL48.out; have := HL49.out; have := HL50.out; have := HL51.out; have := HL52.out; have := HL53.out; have := HZ56.out; have := HL64.out; have := HL65.out; have := HL66.out; have := HL67.out; have := HL68.out; have := HL69.out; omega)).trans H_res_60.out) j
  have HNX : Hid (w.heap.size ∉ rowB (.slice sa2 (x.cells.length + 1) sc2)) := Lib.hid (fun hm => by have q := crow_type HR2.out _ hm; rw [H_x_59.out] at q; simp at q)
  have HNR : Hid (w.heap.size + 1 ∉ rowB (.slice sa2 (x.cells.length + 1) sc2)) := Lib.hid (fun hm => by have q := crow_type HR2.out _ hm; rw [H_res_60.out] at q; simp at q)
  go_wp2_with fail
  clear c_x_0 c_x_1 c_x_2 c_x_3 f_x_2 c_res_0 c_res_1 c_res_2 c_res_3 f_res_0 f_res_1 f_res_2 f_res_3 p_res_0 p_res_1 p_res_2 p_res_3
  clear fpr
  have HL70 := Lib.hid (lt_of_block H_kb_57.out)
  have HL71 := Lib.hid (lt_of_block H_xb_58.out)
  have HL72 := Lib.hid (lt_of_block H_x_59.out)
  have HL73 := Lib.hid (lt_of_block H_res_60.out)
  have HL74 := Lib.hid (lt_of_block H_c_61.out)
  have HL75 := Lib.hid (lt_of_block H_vb_62.out)
  have hC76 : Hid (Chg [w.heap.size, w.heap.size + 1] W54 (((((W54.setCell ⟨w.heap.size, 2, none⟩ (.slice sa2 (x.cells.length + 1) sc2)).setCell ⟨w.heap.size + 1, 0, none⟩ (.int .u8 x.kind)).setCell ⟨w.heap.size + 1, 1, none⟩ (.int .i64 x.first)).setCell ⟨w.heap.size + 1, 2, none⟩ (.slice sa2 (x.cells.length + 1) sc2)).setCell ⟨w.heap.size + 1, 3, none⟩ (vs x.data))) := Lib.hid ((((((Chg.refl [w.heap.size, w.heap.size + 1] W54).setCell (.inl (by simp)) (.slice sa2 (x.cells.length + 1) sc2)).setCell (.inl (by simp)) (.int .u8 x.kind)).setCell (.inl (by simp)) (.int .i64 x.first)).setCell (.inl (by simp)) (.slice sa2 (x.cells.length + 1) sc2)).setCell (.inl (by simp)) (vs x.data))
  have HZ77 := Lib.hid hC76.out.size
  have H_kb_78 : Hid ((((((W54.setCell ⟨w.heap.size, 2, none⟩ (.slice sa2 (x.cells.length + 1) sc2)).setCell ⟨w.heap.size + 1, 0, none⟩ (.int .u8 x.kind)).setCell ⟨w.heap.size + 1, 1, none⟩ (.int .i64 x.first)).setCell ⟨w.heap.size + 1, 2, none⟩ (.slice sa2 (x.cells.length + 1) sc2)).setCell ⟨w.heap.size + 1, 3, none⟩ (vs x.data)).heap[kb]? = some (.cells #[vs key] 9)) := Lib.hid ((setOff 3 (vs x.data) (by have := HCW.out; have := HKC.out; have := HTC.out; have := HL2.out; have := HL3.out; have := HZ5.out; have := HZ15.out; have := HZ26.out; have := HL33.out; have := HL34.out; have := HL35.out; have := HL36.out; have := HZ38.out; have := HL48.out; have := HL49.out; have := HL50.out; have := HL51.out; have := HL52.out; have := HL53.out; have := HZ56.out; have := HL64.out; have := HL65.out; have := HL66.out; have := HL67.out; have := HL68.out; have := HL69.out; have := HL70.out; have := HL71.out; have := HL72.out; have := HL73.out; have := HL74.out; have := HL75.out; omega)).trans ((setOff 2 (.slice sa2 (x.cells.length + 1) sc2) (by have := HCW.out; have := HKC.out; have := HTC.out; have := HL2.out; have := HL3.out; have := HZ5.out; have := HZ15.out; have := HZ26.out; have := HL33.out; have := HL34.out; have := HL35.out; have := HL36.out; have := HZ38.out; have := HL48.out; have := HL49.out; have := HL50.out; have := HL51.out; have := HL52.out; have := HL53.out; have := HZ56.out; have := HL64.out; have := HL65.out; have := HL66.out; have := HL67.out; have := HL68.out; have := HL69.out; have := HL70.out; have := HL71.out; have := HL72.out; have := HL73.out; have := HL74.out; have := HL75.out; omega)).trans ((setOff 1 (.int .i64 x.first) (by have := HCW.out; have := HKC.out; have := HTC.out; have := HL2.out; have := HL3.out; have := HZ5.out; have := HZ15.out; have := HZ26.out; have := HL33.out; have := HL34.out; have := HL35.out; have := HL36.out; have := HZ38.out; have := HL48.out; have := HL49.out; have := HL50.out; have := HL51.out; have := HL52.out; have := HL53.out; have := HZ56.out; have := HL64.out; have := HL65.out; have := HL66.out; have := HL67.out; have := HL68.out; have := HL69.out; have := HL70.out; have := HL71.out; have := HL72.out; have := HL73.out; have := HL74.out; have := HL75.out; omega)).trans ((setOff 0 (.int .u8 x.kind) (by have := HCW.out; have := HKC.out; have := HTC.out; have := HL2.out; have := HL3.out; have := HZ5.out; have := HZ15.out; have := HZ26.out; have := HL33.out; have := HL34.out; have := HL35.out; have := HL36.out; have := HZ38.out; have := HL48.out; have := HL49.out; have := HL50.out; have := HL51.out; have := HL52.out; have := HL53.out; have := HZ56.out; have := HL64.out; have := HL65.out; have := HL66.out; have := HL67.out; have := HL68.out; have := HL69.out; have := HL70.out; have := HL71.out; have := HL72.out; have := HL73.out; have := HL74.out; have := HL75.out; omega)).trans ((setOff 2 (.slice sa2 (x.cells.length + 1) sc2) (by have := HCW.out; have := HKC.out; have := HTC.out; have := HL2.out; have := HL3.out; have := HZ5.out; have := HZ15.out; have := HZ26.out; have := HL33.out; have := HL34.out; have := HL35.out; have := HL36.out; have := HZ38.out; have := HL48.out; have := HL49.out; have := HL50.out; have := HL51.out; have := HL52.out; have := HL53.out; have := HZ56.out; have := HL64.out; have := HL65.out; have := HL66.out; have := HL67.out; have := HL68.out; have := HL69.out; have := HL70.out; have := HL71.out; have := HL72.out; have := HL73.out; have := HL74.out; have := HL75.out; omega)).trans H_kb_57.out)))))
  have H_xb_79 : Hid ((((((W54.setCell ⟨w.heap.size, 2, none⟩ (.slice sa2 (x.cells.length + 1) sc2)).setCell ⟨w.heap.size + 1, 0, none⟩ (.int .u8 x.kind)).setCell ⟨w.heap.size + 1, 1, none⟩ (.int .i64 x.first)).setCell ⟨w.heap.size + 1, 2, none⟩ (.slice sa2 (x.cells.length + 1) sc2)).setCell ⟨w.heap.size + 1, 3, none⟩ (vs x.data)).heap[xb]? = some (.cells #[vs text] 9)) := Lib.hid ((setOff 3 (vs x.data) (by have := HCW.out; have := HKC.out; have := HTC.out; have := HL2.out; have := HL3.out; have := HZ5.out; have := HZ15.out; have := HZ26.out; have := HL33.out; have := HL34.out; have := HL35.out; have := HL36.out; have := HZ38.out; have := HL48.out; have := HL49.out; have := HL50.out; have := HL51.out; have := HL52.out; have := HL53.out; have := HZ56.out; have := HL64.out; have := HL65.out; have := HL66.out; have := HL67.out; have := HL68.out; have := HL69.out; have := HL70.out; have := HL71.out; have := HL72.out; have := HL73.out; have := HL74.out; have := HL75.out; omega)).trans ((setOff 2 (.slice sa2 (x.cells.length + 1) sc2) (by have := HCW.out; have := HKC.out; have := HTC.out; have := HL2.out; have := HL3.out; have := HZ5.out; have := HZ15.out; have := HZ26.out; have := HL33.out; have := HL34.out; have := HL35.out; have := HL36.out; have := HZ38.out; have := HL48.out; have := HL49.out; have := HL50.out; have := HL51.out; have := HL52.out; have := HL53.out; have := HZ56.out; have := HL64.out; have := HL65.out; have := HL66.out; have := HL67.out; have := HL68.out; have := HL69.out; have := HL70.out; have := HL71.out; have := HL72.out; have := HL73.out; have := HL74.out; have := HL75.out; omega)).trans ((setOff 1 (.int .i64 x.first) (by have := HCW.out; have := HKC.out; have := HTC.out; have := HL2.out; have := HL3.out; have := HZ5.out; have := HZ15.out; have := HZ26.out; have := HL33.out; have := HL34.out; have := HL35.out; have := HL36.out; have := HZ38.out; have := HL48.out; have := HL49.out; have := HL50.out; have := HL51.out; have := HL52.out; have := HL53.out; have := HZ56.out; have := HL64.out; have := HL65.out; have := HL66.out; have := HL67.out; have := HL68.out; have := HL69.out; have := HL70.out; have := HL71.out; have := HL72.out; have := HL73.out; have := HL74.out; have := HL75.out; omega)).trans ((setOff 0 (.int .u8 x.kind) (by have := HCW.out; have := HKC.out; have := HTC.out; have := HL2.out; have := HL3.out; have := HZ5.out; have := HZ15.out; have := HZ26.out; have := HL33.out; have := HL34.out; have := HL35.out; have := HL36.out; have := HZ38.out; have := HL48.out; have := HL49.out; have := HL50.out; have := HL51.out; have := HL52.out; have := HL53.out; have := HZ56.out; have := HL64.out; have := HL65.out; have := HL66.out; have := HL67.out; have := HL68.out; have := HL69.out; have := HL70.out; have := HL71.out; have := HL72.out; have := HL73.out; have := HL74.out; have := HL75.out; omega)).trans ((setOff 2 (.slice sa2 (x.cells.length + 1) sc2) (by have := HCW.out; have := HKC.out; have := HTC.out; have := HL2.out; have := HL3.out; have := HZ5.out; have := HZ15.out; have := HZ26.out; have := HL33.out; have := HL34.out; have := HL35.out; have := HL36.out; have := HZ38.out; have := HL48.out; have := HL49.out; have := HL50.out; have := HL51.out; have := HL52.out; have := HL53.out; have := HZ56.out; have := HL64.out; have := HL65.out; have := HL66.out; have := HL67.out; have := HL68.out; have := HL69.out; have := HL70.out; have := HL71.out; have := HL72.out; have := HL73.out; have := HL74.out; have := HL75.out; omega)).trans H_xb_58.out)))))
  have H_x_80 : Hid ((((((W54.setCell ⟨w.heap.size, 2, none⟩ (.slice sa2 (x.cells.length + 1) sc2)).setCell ⟨w.heap.size + 1, 0, none⟩ (.int .u8 x.kind)).setCell ⟨w.heap.size + 1, 1, none⟩ (.int .i64 x.first)).setCell ⟨w.heap.size + 1, 2, none⟩ (.slice sa2 (x.cells.length + 1) sc2)).setCell ⟨w.heap.size + 1, 3, none⟩ (vs x.data)).heap[w.heap.size]? = some (.cells #[.int .u8 x.kind, .int .i64 x.first, .slice sa2 (x.cells.length + 1) sc2, vs x.data] 150)) := Lib.hid ((setOff 3 (vs x.data) (by have := HCW.out; have := HKC.out; have := HTC.out; have := HL2.out; have := HL3.out; have := HZ5.out; have := HZ15.out; have := HZ26.out; have := HL33.out; have := HL34.out; have := HL35.out; have := HL36.out; have := HZ38.out; have := HL48.out; have := HL49.out; have := HL50.out; have := HL51.out; have := HL52.out; have := HL53.out; have := HZ56.out; have := HL64.out; have := HL65.out; have := HL66.out; have := HL67.out; have := HL68.out; have := HL69.out; have := HL70.out; have := HL71.out; have := HL72.out; have := HL73.out; have := HL74.out; have := HL75.out; omega)).trans ((setOff 2 (.slice sa2 (x.cells.length + 1) sc2) (by have := HCW.out; have := HKC.out; have := HTC.out; have := HL2.out; have := HL3.out; have := HZ5.out; have := HZ15.out; have := HZ26.out; have := HL33.out; have := HL34.out; have := HL35.out; have := HL36.out; have := HZ38.out; have := HL48.out; have := HL49.out; have := HL50.out; have := HL51.out; have := HL52.out; have := HL53.out; have := HZ56.out; have := HL64.out; have := HL65.out; have := HL66.out; have := HL67.out; have := HL68.out; have := HL69.out; have := HL70.out; have := HL71.out; have := HL72.out; have := HL73.out; have := HL74.out; have := HL75.out; omega)).trans ((setOff 1 (.int .i64 x.first) (by have := HCW.out; have := HKC.out; have := HTC.out; have := HL2.out; have := HL3.out; have := HZ5.out; have := HZ15.out; have := HZ26.out; have := HL33.out; have := HL34.out; have := HL35.out; have := HL36.out; have := HZ38.out; have := HL48.out; have := HL49.out; have := HL50.out; have := HL51.out; have := HL52.out; have := HL53.out; have := HZ56.out; have := HL64.out; have := HL65.out; have := HL66.out; have := HL67.out; have := HL68.out; have := HL69.out; have := HL70.out; have := HL71.out; have := HL72.out; have := HL73.out; have := HL74.out; have := HL75.out; omega)).trans ((setOff 0 (.int .u8 x.kind) (by have := HCW.out; have := HKC.out; have := HTC.out; have := HL2.out; have := HL3.out; have := HZ5.out; have := HZ15.out; have := HZ26.out; have := HL33.out; have := HL34.out; have := HL35.out; have := HL36.out; have := HZ38.out; have := HL48.out; have := HL49.out; have := HL50.out; have := HL51.out; have := HL52.out; have := HL53.out; have := HZ56.out; have := HL64.out; have := HL65.out; have := HL66.out; have := HL67.out; have := HL68.out; have := HL69.out; have := HL70.out; have := HL71.out; have := HL72.out; have := HL73.out; have := HL74.out; have := HL75.out; omega)).trans (setAt H_x_59.out 2 (.slice sa2 (x.cells.length + 1) sc2))))))
  have H_res_81 : Hid ((((((W54.setCell ⟨w.heap.size, 2, none⟩ (.slice sa2 (x.cells.length + 1) sc2)).setCell ⟨w.heap.size + 1, 0, none⟩ (.int .u8 x.kind)).setCell ⟨w.heap.size + 1, 1, none⟩ (.int .i64 x.first)).setCell ⟨w.heap.size + 1, 2, none⟩ (.slice sa2 (x.cells.length + 1) sc2)).setCell ⟨w.heap.size + 1, 3, none⟩ (vs x.data)).heap[w.heap.size + 1]? = some (.cells #[.int .u8 x.kind, .int .i64 x.first, .slice sa2 (x.cells.length + 1) sc2, vs x.data] 150)) := Lib.hid (setAt (setAt (setAt (setAt ((setOff 2 (.slice sa2 (x.cells.length + 1) sc2) (by have := HCW.out; have := HKC.out; have := HTC.out; have := HL2.out; have := HL3.out; have := HZ5.out; have := HZ15.out; have := HZ26.out; have := HL33.out; have := HL34.out; have := HL35.out; have := HL36.out; have := HZ38.out; have := HL48.out; have := HL49.out; have := HL50.out; have := HL51.out; have := HL52.out; have := HL53.out; have := HZ56.out; have := HL64.out; have := HL65.out; have := HL66.out; have := HL67.out; have := HL68.out; have := HL69.out; have := HL70.out; have := HL71.out; have := HL72.out; have := HL73.out; have := HL74.out; have := HL75.out; omega)).trans H_res_60.out) 0 (.int .u8 x.kind)) 1 (.int .i64 x.first)) 2 (.slice sa2 (x.cells.length + 1) sc2)) 3 (vs x.data))
  have H_c_82 : Hid ((((((W54.setCell ⟨w.heap.size, 2, none⟩ (.slice sa2 (x.cells.length + 1) sc2)).setCell ⟨w.heap.size + 1, 0, none⟩ (.int .u8 x.kind)).setCell ⟨w.heap.size + 1, 1, none⟩ (.int .i64 x.first)).setCell ⟨w.heap.size + 1, 2, none⟩ (.slice sa2 (x.cells.length + 1) sc2)).setCell ⟨w.heap.size + 1, 3, none⟩ (vs x.data)).heap[W24.heap.size]? = some (.cells #[vs key, .int .i64 text.length, vs text, .int .i64 0] 144)) := Lib.hid ((setOff 3 (vs x.data) (by have := HCW.out; have := HKC.out; have := HTC.out; have := HL2.out; have := HL3.out; have := HZ5.out; have := HZ15.out; have := HZ26.out; have := HL33.out; have := HL34.out; have := HL35.out; have := HL36.out; have := HZ38.out; have := HL48.out; have := HL49.out; have := HL50.out; have := HL51.out; have := HL52.out; have := HL53.out; have := HZ56.out; have := HL64.out; have := HL65.out; have := HL66.out; have := HL67.out; have := HL68.out; have := HL69.out; have := HL70.out; have := HL71.out; have := HL72.out; have := HL73.out; have := HL74.out; have := HL75.out; omega)).trans ((setOff 2 (.slice sa2 (x.cells.length + 1) sc2) (by have := HCW.out; have := HKC.out; have := HTC.out; have := HL2.out; have := HL3.out; have := HZ5.out; have := HZ15.out; have := HZ26.out; have := HL33.out; have := HL34.out; have := HL35.out; have := HL36.out; have := HZ38.out; have := HL48.out; have := HL49.out; have := HL50.out; have := HL51.out; have := HL52.out; have := HL53.out; have := HZ56.out; have := HL64.out; have := HL65.out; have := HL66.out; have := HL67.out; have := HL68.out; have := HL69.out; have := HL70.out; have := HL71.out; have := HL72.out; have := HL73.out; have := HL74.out; have := HL75.out; omega)).trans ((setOff 1 (.int .i64 x.first) (by have := HCW.out; have := HKC.out; have := HTC.out; have := HL2.out; have := HL3.out; have := HZ5.out; have := HZ15.out; have := HZ26.out; have := HL33.out; have := HL34.out; have := HL35.out; have := HL36.out; have := HZ38.out; have := HL48.out; have := HL49.out; have := HL50.out; have := HL51.out; have := HL52.out; have := HL53.out; have := HZ56.out; have := HL64.out; have := HL65.out; have := HL66.out; have := HL67.out; have := HL68.out; have := HL69.out; have := HL70.out; have := HL71.out; have := HL72.out; have := HL73.out; have := HL74.out; have := HL75.out; omega)).trans ((setOff 0 (.int .u8 x.kind) (by have := HCW.out; have := HKC.out; have := HTC.out; have := HL2.out; have := HL3.out; have := HZ5.out; have := HZ15.out; have := HZ26.out; have := HL33.out; have := HL34.out; have := HL35.out; have := HL36.out; have := HZ38.out; have := HL48.out; have := HL49.out; have := HL50.out; have := HL51.out; have := HL52.out; have := HL53.out; have := HZ56.out; have := HL64.out; have := HL65.out; have := HL66.out; have := HL67.out; have := HL68.out; have := HL69.out; have := HL70.out; have := HL71.out; have := HL72.out; have := HL73.out; have := HL74.out; have := HL75.out; omega)).trans ((setOff 2 (.slice sa2 (x.cells.length + 1) sc2) (by have := HCW.out; have := HKC.out; have := HTC.out; have := HL2.out; have := HL3.out; have := HZ5.out; have := HZ15.out; have := HZ26.out; have := HL33.out; have := HL34.out; have := HL35.out; have := HL36.out; have := HZ38.out; have := HL48.out; have := HL49.out; have := HL50.out; have := HL51.out; have := HL52.out; have := HL53.out; have := HZ56.out; have := HL64.out; have := HL65.out; have := HL66.out; have := HL67.out; have := HL68.out; have := HL69.out; have := HL70.out; have := HL71.out; have := HL72.out; have := HL73.out; have := HL74.out; have := HL75.out; omega)).trans H_c_61.out)))))
  have H_vb_83 : Hid ((((((W54.setCell ⟨w.heap.size, 2, none⟩ (.slice sa2 (x.cells.length + 1) sc2)).setCell ⟨w.heap.size + 1, 0, none⟩ (.int .u8 x.kind)).setCell ⟨w.heap.size + 1, 1, none⟩ (.int .i64 x.first)).setCell ⟨w.heap.size + 1, 2, none⟩ (.slice sa2 (x.cells.length + 1) sc2)).setCell ⟨w.heap.size + 1, 3, none⟩ (vs x.data)).heap[W24.heap.size + 1]? = some (.cells #[vs key, .int .i64 text.length, vs text, .int .i64 0] 144)) := Lib.hid ((setOff 3 (vs x.data) (by have := HCW.out; have := HKC.out; have := HTC.out; have := HL2.out; have := HL3.out; have := HZ5.out; have := HZ15.out; have := HZ26.out; have := HL33.out; have := HL34.out; have := HL35.out; have := HL36.out; have := HZ38.out; have := HL48.out; have := HL49.out; have := HL50.out; have := HL51.out; have := HL52.out; have := HL53.out; have := HZ56.out; have := HL64.out; have := HL65.out; have := HL66.out; have := HL67.out; have := HL68.out; have := HL69.out; have := HL70.out; have := HL71.out; have := HL72.out; have := HL73.out; have := HL74.out; have := HL75.out; omega)).trans ((setOff 2 (.slice sa2 (x.cells.length + 1) sc2) (by have := HCW.out; have := HKC.out; have := HTC.out; have := HL2.out; have := HL3.out; have := HZ5.out; have := HZ15.out; have := HZ26.out; have := HL33.out; have := HL34.out; have := HL35.out; have := HL36.out; have := HZ38.out; have := HL48.out; have := HL49.out; have := HL50.out; have := HL51.out; have := HL52.out; have := HL53.out; have := HZ56.out; have := HL64.out; have := HL65.out; have := HL66.out; have := HL67.out; have := HL68.out; have := HL69.out; have := HL70.out; have := HL71.out; have := HL72.out; have := HL73.out; have := HL74.out; have := HL75.out; omega)).trans ((setOff 1 (.int .i64 x.first) (by have := HCW.out; have := HKC.out; have := HTC.out; have := HL2.out; have := HL3.out; have := HZ5.out; have := HZ15.out; have := HZ26.out; have := HL33.out; have := HL34.out; have := HL35.out; have := HL36.out; have := HZ38.out; have := HL48.out; have := HL49.out; have := HL50.out; have := HL51.out; have := HL52.out; have := HL53.out; have := HZ56.out; have := HL64.out; have := HL65.out; have := HL66.out; have := HL67.out; have := HL68.out; have := HL69.out; have := HL70.out; have := HL71.out; have := HL72.out; have := HL73.out; have := HL74.out; have := HL75.out; omega)).trans ((setOff 0 (.int .u8 x.kind) (by have := HCW.out; have := HKC.out; have := HTC.out; have := HL2.out; have := HL3.out; have := HZ5.out; have := HZ15.out; have := HZ26.out; have := HL33.out; have := HL34.out; have := HL35.out; have := HL36.out; have := HZ38.out; have := HL48.out; have := HL49.out; have := HL50.out; have := HL51.out; have := HL52.out; have := HL53.out; have := HZ56.out; have := HL64.out; have := HL65.out; have := HL66.out; have := HL67.out; have := HL68.out; have := HL69.out; have := HL70.out; have := HL71.out; have := HL72.out; have := HL73.out; have := HL74.out; have := HL75.out; omega)).trans ((setOff 2 (.slice sa2 (x.cells.length + 1) sc2) (by have := HCW.out; have := HKC.out; have := HTC.out; have := HL2.out; have := HL3.out; have := HZ5.out; have := HZ15.out; have := HZ26.out; have := HL33.out; have := HL34.out; have := HL35.out; have := HL36.out; have := HZ38.out; have := HL48.out; have := HL49.out; have := HL50.out; have := HL51.out; have := HL52.out; have := HL53.out; have := HZ56.out; have := HL64.out; have := HL65.out; have := HL66.out; have := HL67.out; have := HL68.out; have := HL69.out; have := HL70.out; have := HL71.out; have := HL72.out; have := HL73.out; have := HL74.out; have := HL75.out; omega)).trans H_vb_62.out)))))
  have HE84 := Lib.hid (HE63.out.after hC76.out (by intro k hk; have := HCW.out; have := HKC.out; have := HTC.out; have := HL2.out; have := HL3.out; have := HZ5.out; have := HZ15.out; have := HZ26.out; have := HL33.out; have := HL34.out; have := HL35.out; have := HL36.out; have := HZ38.out; have := HL48.out; have := HL49.out; have := HL50.out; have := HL51.out; have := HL52.out; have := HL53.out; have := HZ56.out; have := HL64.out; have := HL65.out; have := HL66.out; have := HL67.out; have := HL68.out; have := HL69.out; have := HL70.out; have := HL71.out; have := HL72.out; have := HL73.out; have := HL74.out; have := HL75.out; have := HZ77.out; simp only [List.mem_cons, List.mem_singleton, List.not_mem_nil, or_false] at hk ⊢; omega))
  generalize (((((W54.setCell ⟨w.heap.size, 2, none⟩ (.slice sa2 (x.cells.length + 1) sc2)).setCell ⟨w.heap.size + 1, 0, none⟩ (.int .u8 x.kind)).setCell ⟨w.heap.size + 1, 1, none⟩ (.int .i64 x.first)).setCell ⟨w.heap.size + 1, 2, none⟩ (.slice sa2 (x.cells.length + 1) sc2)).setCell ⟨w.heap.size + 1, 3, none⟩ (vs x.data)) = W85 at *
  have c_res_0 : W85.cell? ⟨w.heap.size + 1, 0, none⟩ = some (.int .u8 x.kind) := cellAt H_res_81.out 0
  have c_res_1 : W85.cell? ⟨w.heap.size + 1, 1, none⟩ = some (.int .i64 x.first) := cellAt H_res_81.out 1
  have c_res_2 : W85.cell? ⟨w.heap.size + 1, 2, none⟩ = some (.slice sa2 (x.cells.length + 1) sc2) := cellAt H_res_81.out 2
  have c_res_3 : W85.cell? ⟨w.heap.size + 1, 3, none⟩ = some (vs x.data) := cellAt H_res_81.out 3
  exact bodyPost_ret (v := .tuple #[.agg #[.int .u8 x.kind, .int .i64 x.first, .slice sa2 (x.cells.length + 1) sc2, vs x.data], .int .i64 0]) (by simp [results, Tryz.results70, go_sem, c_res_0, c_res_1, c_res_2, c_res_3]; try rfl) rfl (NodePost.mk (.slice sa2 (x.cells.length + 1) sc2) rfl (by rw [putL, HIS.out, if_neg (by decide), ← HI.out]; exact crow_off HR2.out hC76.out (by intro k hk; simp only [List.mem_cons, List.not_mem_nil, or_false] at hk; rcases hk with rfl | rfl; exact HNX.out; exact HNR.out)) HE84.out)

set_option maxRecDepth 100000 in
set_option maxHeartbeats 8000000 in
theorem putC_yes (C : Nat) (x : NodeM) (v : Value) (key text : List UInt8) (kb xb tb : Nat) (w : World) (hr : CRow w C v x.cells) (hCw : C ≤ w.heap.size) (hkb : w.heap[kb]? = some (.cells #[vs key] 9)) (hkC : kb < C) (htb : w.heap[xb]? = some (.cells #[vs text] 9)) (htC : xb < C) (htl : text.length ≤ 100) (hso : SortedC x.cells) (hsm : Small x) (hsh : ∀ c ∈ x.cells, Short c) (his : isN x.cells key = true) :
    Calls Tryz.prog 70 #[ptr tb, nodeV x v, ptr kb, ptr xb] w (NodePost C v ⟨x.kind, x.first, putL x.cells key text, x.data⟩ 0 w) := by
  have HROW0 := Lib.hid hr
  have HRLO : Hid (∀ g ∈ rowB v, C ≤ g) := Lib.hid (rowB_ge hr)
  have HRHI : Hid (∀ g ∈ rowB v, g < w.heap.size) := Lib.hid (rowB_lt hr)
  have HCW := Lib.hid hCw
  have HKB := Lib.hid hkb
  have HKC := Lib.hid hkC
  have HSO := Lib.hid hso
  have HSM := Lib.hid hsm
  have HSH := Lib.hid hsh
  have HIS := Lib.hid his
  have HTB := Lib.hid htb
  have HTC := Lib.hid htC
  have HTL := Lib.hid htl
  obtain ⟨sa, scap, hv⟩ := (rowCells hr).slice
  clear hr hCw hkb hkC hso hsm hsh his htb htC htl
  obtain ⟨v0, hv0⟩ : ∃ v0, v0 = v := ⟨_, rfl⟩
  have HV0 := Lib.hid hv0
  clear hv0
  have HE1 := Lib.hid (Chg.refl (rowB v) w)
  have HSV : Hid (v = .slice sa x.cells.length scap) := Lib.hid hv
  clear hv
  go_enter Tryz.func70, Tryz.ntmps70
  go_upto_region 1 with fail
  have HL2 := Lib.hid (lt_of_block HKB.out)
  have HL3 := Lib.hid (lt_of_block HTB.out)
  have hC4 : Hid (Chg [] w ((w.alloc (.cells #[.int .u8 x.kind, .int .i64 x.first, v, vs x.data] 150)).alloc (.cells #[.int .u8 0, .int .i64 0, .slice none 0 0, .string { data := #[] }] 150))) := Lib.hid (((Chg.refl [] w).alloc (.cells #[.int .u8 x.kind, .int .i64 x.first, v, vs x.data] 150)).alloc (.cells #[.int .u8 0, .int .i64 0, .slice none 0 0, .string { data := #[] }] 150))
  have HZ5 := Lib.hid hC4.out.size
  have H_kb_6 : Hid (((w.alloc (.cells #[.int .u8 x.kind, .int .i64 x.first, v, vs x.data] 150)).alloc (.cells #[.int .u8 0, .int .i64 0, .slice none 0 0, .string { data := #[] }] 150)).heap[kb]? = some (.cells #[vs key] 9)) := Lib.hid (heapOld (heapOld HKB.out (.cells #[.int .u8 x.kind, .int .i64 x.first, v, vs x.data] 150)) (.cells #[.int .u8 0, .int .i64 0, .slice none 0 0, .string { data := #[] }] 150))
  have H_xb_7 : Hid (((w.alloc (.cells #[.int .u8 x.kind, .int .i64 x.first, v, vs x.data] 150)).alloc (.cells #[.int .u8 0, .int .i64 0, .slice none 0 0, .string { data := #[] }] 150)).heap[xb]? = some (.cells #[vs text] 9)) := Lib.hid (heapOld (heapOld HTB.out (.cells #[.int .u8 x.kind, .int .i64 x.first, v, vs x.data] 150)) (.cells #[.int .u8 0, .int .i64 0, .slice none 0 0, .string { data := #[] }] 150))
  have H_x_8 : Hid (((w.alloc (.cells #[.int .u8 x.kind, .int .i64 x.first, v, vs x.data] 150)).alloc (.cells #[.int .u8 0, .int .i64 0, .slice none 0 0, .string { data := #[] }] 150)).heap[w.heap.size]? = some (.cells #[.int .u8 x.kind, .int .i64 x.first, v, vs x.data] 150)) := Lib.hid (heapOld (heapNew (by simp [World.setCell]) (.cells #[.int .u8 x.kind, .int .i64 x.first, v, vs x.data] 150)) (.cells #[.int .u8 0, .int .i64 0, .slice none 0 0, .string { data := #[] }] 150))
  have H_res_9 : Hid (((w.alloc (.cells #[.int .u8 x.kind, .int .i64 x.first, v, vs x.data] 150)).alloc (.cells #[.int .u8 0, .int .i64 0, .slice none 0 0, .string { data := #[] }] 150)).heap[w.heap.size + 1]? = some (.cells #[.int .u8 0, .int .i64 0, .slice none 0 0, .string { data := #[] }] 150)) := Lib.hid (heapNew (by simp [World.setCell]) (.cells #[.int .u8 0, .int .i64 0, .slice none 0 0, .string { data := #[] }] 150))
  have H_row_10 := Lib.hid (ownsRow_chg2 HROW0.out HRHI.out hC4.out (by simp))
  have HE11 := Lib.hid (HE1.out.after hC4.out (by simp))
  generalize ((w.alloc (.cells #[.int .u8 x.kind, .int .i64 x.first, v, vs x.data] 150)).alloc (.cells #[.int .u8 0, .int .i64 0, .slice none 0 0, .string { data := #[] }] 150)) = W12 at *
  have c_x_0 : W12.cell? ⟨w.heap.size, 0, none⟩ = some (.int .u8 x.kind) := cellAt H_x_8.out 0
  have c_x_1 : W12.cell? ⟨w.heap.size, 1, none⟩ = some (.int .i64 x.first) := cellAt H_x_8.out 1
  have c_x_2 : W12.cell? ⟨w.heap.size, 2, none⟩ = some (v) := cellAt H_x_8.out 2
  have c_x_3 : W12.cell? ⟨w.heap.size, 3, none⟩ = some (vs x.data) := cellAt H_x_8.out 3
  have c_kb_0 : W12.cell? ⟨kb, 0, none⟩ = some (vs key) := cellAt H_kb_6.out 0
  go_wp2_with fail
  clear c_x_0 c_x_1 c_x_2 c_x_3 c_kb_0
  go_at_call 71; refine (at_any x _ key _ (rowCells H_row_10.out) HSM.out.cells HSO.out).mono ?_; rintro e W13 ⟨rfl, hb⟩
  have hC14 := Lib.hid (Chg.of_below hb [])
  have HZ15 := Lib.hid hC14.out.size
  have H_kb_16 := Lib.hid (hC14.out.get H_kb_6.out (by simp))
  have H_xb_17 := Lib.hid (hC14.out.get H_xb_7.out (by simp))
  have H_x_18 := Lib.hid (hC14.out.get H_x_8.out (by simp))
  have H_res_19 := Lib.hid (hC14.out.get H_res_9.out (by simp))
  have H_row_20 := Lib.hid (ownsRow_chg2 H_row_10.out HRHI.out hC14.out (by simp))
  have HE21 := Lib.hid (HE11.out.after hC14.out (by simp))
  clear hb
  obtain ⟨i, hi⟩ : ∃ i, i = atN x.cells key := ⟨_, rfl⟩
  have HI := Lib.hid hi
  rw [← hi, HIS.out]
  clear hi
  have hilt : i < x.cells.length := by rw [HI.out]; exact isN_lt HIS.out
  have hln : x.cells.length ≤ 100000 := HSM.out.cells
  have hi0 : (0 : Int) ≤ (i : Int) := by omega
  have hi1 : (i : Int) < (x.cells.length : Int) := by omega
  have hw1 : IntKind.i64.wrap ((i : Int) + 1) = (i : Int) + 1 := by rw [IntKind.wrap_i64]; omega
  have HILT := Lib.hid hilt
  obtain ⟨c, hc⟩ : ∃ c, x.cells[i]? = some c := ⟨_, List.getElem?_eq_getElem hilt⟩
  have HSC := Lib.hid (HSH.out c (List.mem_of_getElem? hc))
  rcases rowCells H_row_20.out with ⟨-, h0⟩ | ⟨b, off, cap', hvv, hbl, hcs⟩
  · rw [h0] at hilt; simp at hilt
  obtain ⟨k0, k1, k2, k3⟩ := hcs i c hc
  have HVV : Hid (v = .slice (some ⟨b, off, none⟩) x.cells.length cap') := Lib.hid hvv
  clear hcs hc hbl hvv
  have c_x_22 : W13.cell? ⟨w.heap.size, 2, none⟩ = some (.slice (some ⟨b, off, none⟩) x.cells.length cap') := by rw [← HVV.out]; exact cellAt H_x_18.out 2
  go_wp2_with fail
  clear k0 k1 k2 k3 c_x_22
  go_at_call 72; refine (tfree_short c HSC.out _ _).mono ?_; rintro e W23 ⟨rfl, hb⟩
  have hC24 := Lib.hid (Chg.of_below hb [])
  have HZ25 := Lib.hid hC24.out.size
  have H_kb_26 := Lib.hid (hC24.out.get H_kb_16.out (by simp))
  have H_xb_27 := Lib.hid (hC24.out.get H_xb_17.out (by simp))
  have H_x_28 := Lib.hid (hC24.out.get H_x_18.out (by simp))
  have H_res_29 := Lib.hid (hC24.out.get H_res_19.out (by simp))
  have H_row_30 := Lib.hid (ownsRow_chg2 H_row_20.out HRHI.out hC24.out (by simp))
  have HE31 := Lib.hid (HE21.out.after hC24.out (by simp))
  clear hb
  have c_x_2 : W23.cell? ⟨w.heap.size, 2, none⟩ = some (v) := cellAt H_x_28.out 2
  go_wp2_with fail
  clear c_x_2
  go_at_call 73; refine (sdel C v x.cells i _ H_row_30.out HILT.out HSM.out.cells).mono ?_; rintro e W32 ⟨v1, rfl, hr1, hc1, hb1⟩
  have HR1 := Lib.hid hr1
  have HB1 := Lib.hid hb1
  clear hr1 hb1
  have hC33 := Lib.hid hc1
  have HZ34 := Lib.hid hC33.out.size
  have H_kb_35 := Lib.hid (hC33.out.get H_kb_26.out (fun hm => by have q1 := HRLO.out _ hm; have q2 := HRHI.out _ hm; have := HCW.out; have := HKC.out; have := HTC.out; have := HL2.out; have := HL3.out; have := HZ5.out; have := HZ15.out; have := HZ25.out; have := HZ34.out; omega))
  have H_xb_36 := Lib.hid (hC33.out.get H_xb_27.out (fun hm => by have q1 := HRLO.out _ hm; have q2 := HRHI.out _ hm; have := HCW.out; have := HKC.out; have := HTC.out; have := HL2.out; have := HL3.out; have := HZ5.out; have := HZ15.out; have := HZ25.out; have := HZ34.out; omega))
  have H_x_37 := Lib.hid (hC33.out.get H_x_28.out (fun hm => by have q1 := HRLO.out _ hm; have q2 := HRHI.out _ hm; have := HCW.out; have := HKC.out; have := HTC.out; have := HL2.out; have := HL3.out; have := HZ5.out; have := HZ15.out; have := HZ25.out; have := HZ34.out; omega))
  have H_res_38 := Lib.hid (hC33.out.get H_res_29.out (fun hm => by have q1 := HRLO.out _ hm; have q2 := HRHI.out _ hm; have := HCW.out; have := HKC.out; have := HTC.out; have := HL2.out; have := HL3.out; have := HZ5.out; have := HZ15.out; have := HZ25.out; have := HZ34.out; omega))
  have HE39 := Lib.hid (HE31.out.after hC33.out (fun k hk => by first | exact .inl (by simp [hk]) | exact .inl (by skip) | exact .inr (by have q1 := HRLO.out k hk; have := HCW.out; have := HKC.out; have := HTC.out; have := HL2.out; have := HL3.out; have := HZ5.out; have := HZ15.out; have := HZ25.out; have := HZ34.out; omega)))
  clear hc1
  have HRHI1 : Hid (∀ g ∈ rowB v1, g < w.heap.size) := Lib.hid (by rw [HB1.out]; exact HRHI.out)
  obtain ⟨sa1, sc1, hv1⟩ := (rowCells HR1.out).slice
  have HSV1 := Lib.hid hv1
  clear hv1
  clear hilt
  have hel : (x.cells.eraseIdx i).length = x.cells.length - 1 := by rw [List.length_eraseIdx, if_pos HILT.out]
  have HEL := Lib.hid hel
  clear hel
  have c_x_2 : W32.cell? ⟨w.heap.size, 2, none⟩ = some (v) := cellAt H_x_37.out 2
  have f_x_2 : W32.frozen? ⟨w.heap.size, 2, none⟩ = false := freeAt H_x_37.out 2
  clear c_x_2 f_x_2
  have HS1 : Hid (v1 = .slice sa1 (x.cells.length - 1) sc1) := Lib.hid (by rw [HSV1.out, HEL.out])
  have hs1 := HS1.out
  subst hs1
  have c_x_0 : W32.cell? ⟨w.heap.size, 0, none⟩ = some (.int .u8 x.kind) := cellAt H_x_37.out 0
  have c_x_1 : W32.cell? ⟨w.heap.size, 1, none⟩ = some (.int .i64 x.first) := cellAt H_x_37.out 1
  have c_x_2 : W32.cell? ⟨w.heap.size, 2, none⟩ = some (v) := cellAt H_x_37.out 2
  have c_x_3 : W32.cell? ⟨w.heap.size, 3, none⟩ = some (vs x.data) := cellAt H_x_37.out 3
  have f_x_2 : W32.frozen? ⟨w.heap.size, 2, none⟩ = false := freeAt H_x_37.out 2
  go_upto_region 7 with fail
  clear c_x_0 c_x_1 c_x_2 c_x_3 f_x_2
  have HL40 := Lib.hid (lt_of_block H_kb_35.out)
  have HL41 := Lib.hid (lt_of_block H_xb_36.out)
  have HL42 := Lib.hid (lt_of_block H_x_37.out)
  have HL43 := Lib.hid (lt_of_block H_res_38.out)
  have hC44 : Hid (Chg [w.heap.size] W32 (W32.setCell ⟨w.heap.size, 2, none⟩ (.slice sa1 (x.cells.length - 1) sc1))) := Lib.hid ((Chg.refl [w.heap.size] W32).setCell (.inl (by simp)) (.slice sa1 (x.cells.length - 1) sc1))
  have HZ45 := Lib.hid hC44.out.size
  have H_kb_46 : Hid ((W32.setCell ⟨w.heap.size, 2, none⟩ (.slice sa1 (x.cells.length - 1) sc1)).heap[kb]? = some (.cells #[vs key] 9)) := Lib.hid ((setOff 2 (.slice sa1 (x.cells.length - 1) sc1) (by have := HCW.out; have := HKC.out; have := HTC.out; have := HL2.out; have := HL3.out; have := HZ5.out; have := HZ15.out; have := HZ25.out; have := HZ34.out; have := HL40.out; have := HL41.out; have := HL42.out; have := HL43.out; omega)).trans H_kb_35.out)
  have H_xb_47 : Hid ((W32.setCell ⟨w.heap.size, 2, none⟩ (.slice sa1 (x.cells.length - 1) sc1)).heap[xb]? = some (.cells #[vs text] 9)) := Lib.hid ((setOff 2 (.slice sa1 (x.cells.length - 1) sc1) (by have := HCW.out; have := HKC.out; have := HTC.out; have := HL2.out; have := HL3.out; have := HZ5.out; have := HZ15.out; have := HZ25.out; have := HZ34.out; have := HL40.out; have := HL41.out; have := HL42.out; have := HL43.out; omega)).trans H_xb_36.out)
  have H_x_48 : Hid ((W32.setCell ⟨w.heap.size, 2, none⟩ (.slice sa1 (x.cells.length - 1) sc1)).heap[w.heap.size]? = some (.cells #[.int .u8 x.kind, .int .i64 x.first, .slice sa1 (x.cells.length - 1) sc1, vs x.data] 150)) := Lib.hid (setAt H_x_37.out 2 (.slice sa1 (x.cells.length - 1) sc1))
  have H_res_49 : Hid ((W32.setCell ⟨w.heap.size, 2, none⟩ (.slice sa1 (x.cells.length - 1) sc1)).heap[w.heap.size + 1]? = some (.cells #[.int .u8 0, .int .i64 0, .slice none 0 0, .string { data := #[] }] 150)) := Lib.hid ((setOff 2 (.slice sa1 (x.cells.length - 1) sc1) (by have := HCW.out; have := HKC.out; have := HTC.out; have := HL2.out; have := HL3.out; have := HZ5.out; have := HZ15.out; have := HZ25.out; have := HZ34.out; have := HL40.out; have := HL41.out; have := HL42.out; have := HL43.out; omega)).trans H_res_38.out)
  have H_row_50 := Lib.hid (ownsRow_chg2 HR1.out HRHI1.out hC44.out (by intro k hk; have := HCW.out; have := HKC.out; have := HTC.out; have := HL2.out; have := HL3.out; have := HZ5.out; have := HZ15.out; have := HZ25.out; have := HZ34.out; have := HL40.out; have := HL41.out; have := HL42.out; have := HL43.out; have := HZ45.out; simp only [List.mem_cons, List.mem_singleton, List.not_mem_nil, or_false] at hk; omega))
  have HE51 := Lib.hid (HE39.out.after hC44.out (by intro k hk; have := HCW.out; have := HKC.out; have := HTC.out; have := HL2.out; have := HL3.out; have := HZ5.out; have := HZ15.out; have := HZ25.out; have := HZ34.out; have := HL40.out; have := HL41.out; have := HL42.out; have := HL43.out; have := HZ45.out; simp only [List.mem_cons, List.mem_singleton, List.not_mem_nil, or_false] at hk ⊢; omega))
  generalize (W32.setCell ⟨w.heap.size, 2, none⟩ (.slice sa1 (x.cells.length - 1) sc1)) = W52 at *
  have HRLO2 : Hid (∀ g ∈ rowB ((.slice sa1 (x.cells.length - 1) sc1)), C ≤ g) := Lib.hid (by rw [HB1.out]; exact HRLO.out)
  have c_kb_0 : W52.cell? ⟨kb, 0, none⟩ = some (vs key) := cellAt H_kb_46.out 0
  have c_xb_0 : W52.cell? ⟨xb, 0, none⟩ = some (vs text) := cellAt H_xb_47.out 0
  go_wp2_with fail
  clear c_kb_0 c_xb_0
  go_at_call 67; refine (tcell_short key text HTL.out _ _).mono ?_; rintro e W53 ⟨rfl, hb⟩
  have hC54 := Lib.hid (Chg.of_below hb [])
  have HZ55 := Lib.hid hC54.out.size
  have H_kb_56 := Lib.hid (hC54.out.get H_kb_46.out (by simp))
  have H_xb_57 := Lib.hid (hC54.out.get H_xb_47.out (by simp))
  have H_x_58 := Lib.hid (hC54.out.get H_x_48.out (by simp))
  have H_res_59 := Lib.hid (hC54.out.get H_res_49.out (by simp))
  have H_row_60 := Lib.hid (ownsRow_chg2 H_row_50.out HRHI1.out hC54.out (by simp))
  have HE61 := Lib.hid (HE51.out.after hC54.out (by simp))
  clear hb
  have o_x_2_1 : (W53.alloc (.cells #[vs key, .int .i64 text.length, vs text, .int .i64 0] 144)).cell? ⟨w.heap.size, 2, none⟩ = some (.slice sa1 (x.cells.length - 1) sc1) := cellAt (heapOld H_x_58.out (.cells #[vs key, .int .i64 text.length, vs text, .int .i64 0] 144)) 2
  go_wp2_with fail
  clear o_x_2_1
  have HL62 := Lib.hid (lt_of_block H_kb_56.out)
  have HL63 := Lib.hid (lt_of_block H_xb_57.out)
  have HL64 := Lib.hid (lt_of_block H_x_58.out)
  have HL65 := Lib.hid (lt_of_block H_res_59.out)
  have hC66 : Hid (Chg [] W53 ((W53.alloc (.cells #[vs key, .int .i64 text.length, vs text, .int .i64 0] 144)).alloc (.cells #[vs key, .int .i64 text.length, vs text, .int .i64 0] 144))) := Lib.hid (((Chg.refl [] W53).alloc (.cells #[vs key, .int .i64 text.length, vs text, .int .i64 0] 144)).alloc (.cells #[vs key, .int .i64 text.length, vs text, .int .i64 0] 144))
  have HZ67 := Lib.hid hC66.out.size
  have H_kb_68 : Hid (((W53.alloc (.cells #[vs key, .int .i64 text.length, vs text, .int .i64 0] 144)).alloc (.cells #[vs key, .int .i64 text.length, vs text, .int .i64 0] 144)).heap[kb]? = some (.cells #[vs key] 9)) := Lib.hid (heapOld (heapOld H_kb_56.out (.cells #[vs key, .int .i64 text.length, vs text, .int .i64 0] 144)) (.cells #[vs key, .int .i64 text.length, vs text, .int .i64 0] 144))
  have H_xb_69 : Hid (((W53.alloc (.cells #[vs key, .int .i64 text.length, vs text, .int .i64 0] 144)).alloc (.cells #[vs key, .int .i64 text.length, vs text, .int .i64 0] 144)).heap[xb]? = some (.cells #[vs text] 9)) := Lib.hid (heapOld (heapOld H_xb_57.out (.cells #[vs key, .int .i64 text.length, vs text, .int .i64 0] 144)) (.cells #[vs key, .int .i64 text.length, vs text, .int .i64 0] 144))
  have H_x_70 : Hid (((W53.alloc (.cells #[vs key, .int .i64 text.length, vs text, .int .i64 0] 144)).alloc (.cells #[vs key, .int .i64 text.length, vs text, .int .i64 0] 144)).heap[w.heap.size]? = some (.cells #[.int .u8 x.kind, .int .i64 x.first, .slice sa1 (x.cells.length - 1) sc1, vs x.data] 150)) := Lib.hid (heapOld (heapOld H_x_58.out (.cells #[vs key, .int .i64 text.length, vs text, .int .i64 0] 144)) (.cells #[vs key, .int .i64 text.length, vs text, .int .i64 0] 144))
  have H_res_71 : Hid (((W53.alloc (.cells #[vs key, .int .i64 text.length, vs text, .int .i64 0] 144)).alloc (.cells #[vs key, .int .i64 text.length, vs text, .int .i64 0] 144)).heap[w.heap.size + 1]? = some (.cells #[.int .u8 0, .int .i64 0, .slice none 0 0, .string { data := #[] }] 150)) := Lib.hid (heapOld (heapOld H_res_59.out (.cells #[vs key, .int .i64 text.length, vs text, .int .i64 0] 144)) (.cells #[vs key, .int .i64 text.length, vs text, .int .i64 0] 144))
  have H_c_72 : Hid (((W53.alloc (.cells #[vs key, .int .i64 text.length, vs text, .int .i64 0] 144)).alloc (.cells #[vs key, .int .i64 text.length, vs text, .int .i64 0] 144)).heap[W53.heap.size]? = some (.cells #[vs key, .int .i64 text.length, vs text, .int .i64 0] 144)) := Lib.hid (heapOld (heapNew (by simp [World.setCell]) (.cells #[vs key, .int .i64 text.length, vs text, .int .i64 0] 144)) (.cells #[vs key, .int .i64 text.length, vs text, .int .i64 0] 144))
  have H_vb_73 : Hid (((W53.alloc (.cells #[vs key, .int .i64 text.length, vs text, .int .i64 0] 144)).alloc (.cells #[vs key, .int .i64 text.length, vs text, .int .i64 0] 144)).heap[W53.heap.size + 1]? = some (.cells #[vs key, .int .i64 text.length, vs text, .int .i64 0] 144)) := Lib.hid (heapNew (by simp [World.setCell]) (.cells #[vs key, .int .i64 text.length, vs text, .int .i64 0] 144))
  have H_row_74 := Lib.hid (ownsRow_chg2 H_row_60.out HRHI1.out hC66.out (by simp))
  have HE75 := Lib.hid (HE61.out.after hC66.out (by simp))
  generalize ((W53.alloc (.cells #[vs key, .int .i64 text.length, vs text, .int .i64 0] 144)).alloc (.cells #[vs key, .int .i64 text.length, vs text, .int .i64 0] 144)) = W76 at *
  have HL77 := Lib.hid (lt_of_block H_kb_68.out)
  have HL78 := Lib.hid (lt_of_block H_xb_69.out)
  have HL79 := Lib.hid (lt_of_block H_x_70.out)
  have HL80 := Lib.hid (lt_of_block H_res_71.out)
  have HL81 := Lib.hid (lt_of_block H_c_72.out)
  have HL82 := Lib.hid (lt_of_block H_vb_73.out)
  go_at_call 74; refine (sins C (.slice sa1 (x.cells.length - 1) sc1) (x.cells.eraseIdx i) i (⟨key, text.length, text, 0⟩ : CellM) (W53.heap.size + 1) _ H_row_74.out (by have := HCW.out; have := HKC.out; have := HTC.out; have := HL2.out; have := HL3.out; have := HZ5.out; have := HZ15.out; have := HZ25.out; have := HZ34.out; have := HL40.out; have := HL41.out; have := HL42.out; have := HL43.out; have := HZ45.out; have := HZ55.out; have := HL62.out; have := HL63.out; have := HL64.out; have := HL65.out; have := HZ67.out; have := HL77.out; have := HL78.out; have := HL79.out; have := HL80.out; have := HL81.out; have := HL82.out; omega) H_vb_73.out (fun hm => by have q := HRHI1.out _ hm; have := HCW.out; have := HKC.out; have := HTC.out; have := HL2.out; have := HL3.out; have := HZ5.out; have := HZ15.out; have := HZ25.out; have := HZ34.out; have := HL40.out; have := HL41.out; have := HL42.out; have := HL43.out; have := HZ45.out; have := HZ55.out; have := HL62.out; have := HL63.out; have := HL64.out; have := HL65.out; have := HZ67.out; have := HL77.out; have := HL78.out; have := HL79.out; have := HL80.out; have := HL81.out; have := HL82.out; omega) (by have := HEL.out; have := HILT.out; have := HSM.out.cells; omega) (by have := HEL.out; have := HILT.out; have := HSM.out.cells; omega)).mono ?_; rintro e W83 ⟨v2, rfl, hr2, hc2⟩
  have HR2 := Lib.hid hr2
  clear hr2
  have hC84 := Lib.hid hc2
  have HZ85 := Lib.hid hC84.out.size
  have H_kb_86 := Lib.hid (hC84.out.get H_kb_68.out (fun hm => by have q1 := HRLO2.out _ hm; have q2 := HRHI1.out _ hm; have := HCW.out; have := HKC.out; have := HTC.out; have := HL2.out; have := HL3.out; have := HZ5.out; have := HZ15.out; have := HZ25.out; have := HZ34.out; have := HL40.out; have := HL41.out; have := HL42.out; have := HL43.out; have := HZ45.out; have := HZ55.out; have := HL62.out; have := HL63.out; have := HL64.out; have := HL65.out; have := HZ67.out; have := HL77.out; have := HL78.out; have := HL79.out; have := HL80.out; have := HL81.out; have := HL82.out; have := HZ85.out; omega))
  have H_xb_87 := Lib.hid (hC84.out.get H_xb_69.out (fun hm => by have q1 := HRLO2.out _ hm; have q2 := HRHI1.out _ hm; have := HCW.out; have := HKC.out; have := HTC.out; have := HL2.out; have := HL3.out; have := HZ5.out; have := HZ15.out; have := HZ25.out; have := HZ34.out; have := HL40.out; have := HL41.out; have := HL42.out; have := HL43.out; have := HZ45.out; have := HZ55.out; have := HL62.out; have := HL63.out; have := HL64.out; have := HL65.out; have := HZ67.out; have := HL77.out; have := HL78.out; have := HL79.out; have := HL80.out; have := HL81.out; have := HL82.out; have := HZ85.out; omega))
  have H_x_88 := Lib.hid (hC84.out.get H_x_70.out (fun hm => by have q1 := HRLO2.out _ hm; have q2 := HRHI1.out _ hm; have := HCW.out; have := HKC.out; have := HTC.out; have := HL2.out; have := HL3.out; have := HZ5.out; have := HZ15.out; have := HZ25.out; have := HZ34.out; have := HL40.out; have := HL41.out; have := HL42.out; have := HL43.out; have := HZ45.out; have := HZ55.out; have := HL62.out; have := HL63.out; have := HL64.out; have := HL65.out; have := HZ67.out; have := HL77.out; have := HL78.out; have := HL79.out; have := HL80.out; have := HL81.out; have := HL82.out; have := HZ85.out; omega))
  have H_res_89 := Lib.hid (hC84.out.get H_res_71.out (fun hm => by have q1 := HRLO2.out _ hm; have q2 := HRHI1.out _ hm; have := HCW.out; have := HKC.out; have := HTC.out; have := HL2.out; have := HL3.out; have := HZ5.out; have := HZ15.out; have := HZ25.out; have := HZ34.out; have := HL40.out; have := HL41.out; have := HL42.out; have := HL43.out; have := HZ45.out; have := HZ55.out; have := HL62.out; have := HL63.out; have := HL64.out; have := HL65.out; have := HZ67.out; have := HL77.out; have := HL78.out; have := HL79.out; have := HL80.out; have := HL81.out; have := HL82.out; have := HZ85.out; omega))
  have H_c_90 := Lib.hid (hC84.out.get H_c_72.out (fun hm => by have q1 := HRLO2.out _ hm; have q2 := HRHI1.out _ hm; have := HCW.out; have := HKC.out; have := HTC.out; have := HL2.out; have := HL3.out; have := HZ5.out; have := HZ15.out; have := HZ25.out; have := HZ34.out; have := HL40.out; have := HL41.out; have := HL42.out; have := HL43.out; have := HZ45.out; have := HZ55.out; have := HL62.out; have := HL63.out; have := HL64.out; have := HL65.out; have := HZ67.out; have := HL77.out; have := HL78.out; have := HL79.out; have := HL80.out; have := HL81.out; have := HL82.out; have := HZ85.out; omega))
  have H_vb_91 := Lib.hid (hC84.out.get H_vb_73.out (fun hm => by have q1 := HRLO2.out _ hm; have q2 := HRHI1.out _ hm; have := HCW.out; have := HKC.out; have := HTC.out; have := HL2.out; have := HL3.out; have := HZ5.out; have := HZ15.out; have := HZ25.out; have := HZ34.out; have := HL40.out; have := HL41.out; have := HL42.out; have := HL43.out; have := HZ45.out; have := HZ55.out; have := HL62.out; have := HL63.out; have := HL64.out; have := HL65.out; have := HZ67.out; have := HL77.out; have := HL78.out; have := HL79.out; have := HL80.out; have := HL81.out; have := HL82.out; have := HZ85.out; omega))
  have HE92 := Lib.hid (HE75.out.after hC84.out (fun k hk => by first | exact .inl (by simp [hk]) | exact .inl (by rw [← HB1.out]; exact hk) | exact .inr (by have q1 := HRLO2.out k hk; have := HCW.out; have := HKC.out; have := HTC.out; have := HL2.out; have := HL3.out; have := HZ5.out; have := HZ15.out; have := HZ25.out; have := HZ34.out; have := HL40.out; have := HL41.out; have := HL42.out; have := HL43.out; have := HZ45.out; have := HZ55.out; have := HL62.out; have := HL63.out; have := HL64.out; have := HL65.out; have := HZ67.out; have := HL77.out; have := HL78.out; have := HL79.out; have := HL80.out; have := HL81.out; have := HL82.out; have := HZ85.out; omega)))
  clear hc2
  obtain ⟨sa2, sc2, hv2⟩ := (rowCells HR2.out).slice
  have hv2' : v2 = .slice sa2 ((x.cells.length - 1) + 1) sc2 := by rw [hv2, insC_len _ _ _ (by have := HEL.out; have := HILT.out; have := HSM.out.cells; omega)]; rw [HEL.out]
  subst hv2'
  clear hv2
  have c_x_0 : W83.cell? ⟨w.heap.size, 0, none⟩ = some (.int .u8 x.kind) := cellAt H_x_88.out 0
  have c_x_1 : W83.cell? ⟨w.heap.size, 1, none⟩ = some (.int .i64 x.first) := cellAt H_x_88.out 1
  have c_x_2 : W83.cell? ⟨w.heap.size, 2, none⟩ = some (.slice sa1 (x.cells.length - 1) sc1) := cellAt H_x_88.out 2
  have c_x_3 : W83.cell? ⟨w.heap.size, 3, none⟩ = some (vs x.data) := cellAt H_x_88.out 3
  have f_x_2 : W83.frozen? ⟨w.heap.size, 2, none⟩ = false := freeAt H_x_88.out 2
  have c_res_0 : W83.cell? ⟨w.heap.size + 1, 0, none⟩ = some (.int .u8 0) := cellAt H_res_89.out 0
  have c_res_1 : W83.cell? ⟨w.heap.size + 1, 1, none⟩ = some (.int .i64 0) := cellAt H_res_89.out 1
  have c_res_2 : W83.cell? ⟨w.heap.size + 1, 2, none⟩ = some (.slice none 0 0) := cellAt H_res_89.out 2
  have c_res_3 : W83.cell? ⟨w.heap.size + 1, 3, none⟩ = some (.string { data := #[] }) := cellAt H_res_89.out 3
  have f_res_0 : W83.frozen? ⟨w.heap.size + 1, 0, none⟩ = false := freeAt H_res_89.out 0
  have f_res_1 : W83.frozen? ⟨w.heap.size + 1, 1, none⟩ = false := freeAt H_res_89.out 1
  have f_res_2 : W83.frozen? ⟨w.heap.size + 1, 2, none⟩ = false := freeAt H_res_89.out 2
  have f_res_3 : W83.frozen? ⟨w.heap.size + 1, 3, none⟩ = false := freeAt H_res_89.out 3
  have HL93 := Lib.hid (lt_of_block H_kb_86.out)
  have HL94 := Lib.hid (lt_of_block H_xb_87.out)
  have HL95 := Lib.hid (lt_of_block H_x_88.out)
  have HL96 := Lib.hid (lt_of_block H_res_89.out)
  have HL97 := Lib.hid (lt_of_block H_c_90.out)
  have HL98 := Lib.hid (lt_of_block H_vb_91.out)
  have p_res_0 : (W83.setCell ⟨w.heap.size, 2, none⟩ (.slice sa2 ((x.cells.length - 1) + 1) sc2)).cell? ⟨w.heap.size + 1, 0, none⟩ = some (.int .u8 0) := cellAt ((setOff 2 (.slice sa2 ((x.cells.length - 1) + 1) sc2) (by have := HCW.out; have := HKC.out; have := HTC.out; have := HL2.out; have := HL3.out; have := HZ5.out; have := HZ15.out; have := HZ25.out; have := HZ34.out; have := HL40.out; have := HL41.out; have := HL42.out; have := HL43.out; have := HZ45.out; have := HZ55.out; have := HL62.out; have := HL63.out; have := HL64.out; have := HL65.out; have := HZ67.out; have := HL77.out; have := HL78.out; have := HL79.out; have := HL80.out; have := HL81.out; have := HL82.out; have := HZ85.out; have := HL93.out; have := HL94.out; have := HL95.out; have := HL96.out; have := HL97.out; have := HL98.out; omega)).trans H_res_89.out) 0
  have p_res_1 : (W83.setCell ⟨w.heap.size, 2, none⟩ (.slice sa2 ((x.cells.length - 1) + 1) sc2)).cell? ⟨w.heap.size + 1, 1, none⟩ = some (.int .i64 0) := cellAt ((setOff 2 (.slice sa2 ((x.cells.length - 1) + 1) sc2) (by have := HCW.out; have := HKC.out; have := HTC.out; have := HL2.out; have := HL3.out; have := HZ5.out; have := HZ15.out; have := HZ25.out; have := HZ34.out; have := HL40.out; have := HL41.out; have := HL42.out; have := HL43.out; have := HZ45.out; have := HZ55.out; have := HL62.out; have := HL63.out; have := HL64.out; have := HL65.out; have := HZ67.out; have := HL77.out; have := HL78.out; have := HL79.out; have := HL80.out; have := HL81.out; have := HL82.out; have := HZ85.out; have := HL93.out; have := HL94.out; have := HL95.out; have := HL96.out; have := HL97.out; have := HL98.out; omega)).trans H_res_89.out) 1
  have p_res_2 : (W83.setCell ⟨w.heap.size, 2, none⟩ (.slice sa2 ((x.cells.length - 1) + 1) sc2)).cell? ⟨w.heap.size + 1, 2, none⟩ = some (.slice none 0 0) := cellAt ((setOff 2 (.slice sa2 ((x.cells.length - 1) + 1) sc2) (by have := HCW.out; have := HKC.out; have := HTC.out; have := HL2.out; have := HL3.out; have := HZ5.out; have := HZ15.out; have := HZ25.out; have := HZ34.out; have := HL40.out; have := HL41.out; have := HL42.out; have := HL43.out; have := HZ45.out; have := HZ55.out; have := HL62.out; have := HL63.out; have := HL64.out; have := HL65.out; have := HZ67.out; have := HL77.out; have := HL78.out; have := HL79.out; have := HL80.out; have := HL81.out; have := HL82.out; have := HZ85.out; have := HL93.out; have := HL94.out; have := HL95.out; have := HL96.out; have := HL97.out; have := HL98.out; omega)).trans H_res_89.out) 2
  have p_res_3 : (W83.setCell ⟨w.heap.size, 2, none⟩ (.slice sa2 ((x.cells.length - 1) + 1) sc2)).cell? ⟨w.heap.size + 1, 3, none⟩ = some (.string { data := #[] }) := cellAt ((setOff 2 (.slice sa2 ((x.cells.length - 1) + 1) sc2) (by have := HCW.out; have := HKC.out; have := HTC.out; have := HL2.out; have := HL3.out; have := HZ5.out; have := HZ15.out; have := HZ25.out; have := HZ34.out; have := HL40.out; have := HL41.out; have := HL42.out; have := HL43.out; have := HZ45.out; have := HZ55.out; have := HL62.out; have := HL63.out; have := HL64.out; have := HL65.out; have := HZ67.out; have := HL77.out; have := HL78.out; have := HL79.out; have := HL80.out; have := HL81.out; have := HL82.out; have := HZ85.out; have := HL93.out; have := HL94.out; have := HL95.out; have := HL96.out; have := HL97.out; have := HL98.out; omega)).trans H_res_89.out) 3
  have fpr : ∀ j, (W83.setCell ⟨w.heap.size, 2, none⟩ (.slice sa2 ((x.cells.length - 1) + 1) sc2)).frozen? ⟨w.heap.size + 1, j, none⟩ = false := fun j => freeAt ((setOff 2 (.slice sa2 ((x.cells.length - 1) + 1) sc2) (by have := HCW.out; have := HKC.out; have := HTC.out; have := HL2.out; have := HL3.out; have := HZ5.out; have := HZ15.out; have := HZ25.out; have := HZ34.out; have := HL40.out; have := HL41.out; have := HL42.out; have := HL43.out; have := HZ45.out; have := HZ55.out; have := HL62.out; have := HL63.out; have := HL64.out; have := HL65.out; have := HZ67.out; have := HL77.out; have := HL78.out; have := HL79.out; have := HL80.out; have := HL81.out; have := HL82.out; have := HZ85.out; have := HL93.out; have := HL94.out; have := HL95.out; have := HL96.out; have := HL97.out; have := HL98.out; omega)).trans H_res_89.out) j
  have HNX : Hid (w.heap.size ∉ rowB (.slice sa2 ((x.cells.length - 1) + 1) sc2)) := Lib.hid (fun hm => by have q := crow_type HR2.out _ hm; rw [H_x_88.out] at q; simp at q)
  have HNR : Hid (w.heap.size + 1 ∉ rowB (.slice sa2 ((x.cells.length - 1) + 1) sc2)) := Lib.hid (fun hm => by have q := crow_type HR2.out _ hm; rw [H_res_89.out] at q; simp at q)
  go_wp2_with fail
  clear c_x_0 c_x_1 c_x_2 c_x_3 f_x_2 c_res_0 c_res_1 c_res_2 c_res_3 f_res_0 f_res_1 f_res_2 f_res_3 p_res_0 p_res_1 p_res_2 p_res_3
  clear fpr
  have HL99 := Lib.hid (lt_of_block H_kb_86.out)
  have HL100 := Lib.hid (lt_of_block H_xb_87.out)
  have HL101 := Lib.hid (lt_of_block H_x_88.out)
  have HL102 := Lib.hid (lt_of_block H_res_89.out)
  have HL103 := Lib.hid (lt_of_block H_c_90.out)
  have HL104 := Lib.hid (lt_of_block H_vb_91.out)
  have hC105 : Hid (Chg [w.heap.size, w.heap.size + 1] W83 (((((W83.setCell ⟨w.heap.size, 2, none⟩ (.slice sa2 ((x.cells.length - 1) + 1) sc2)).setCell ⟨w.heap.size + 1, 0, none⟩ (.int .u8 x.kind)).setCell ⟨w.heap.size + 1, 1, none⟩ (.int .i64 x.first)).setCell ⟨w.heap.size + 1, 2, none⟩ (.slice sa2 ((x.cells.length - 1) + 1) sc2)).setCell ⟨w.heap.size + 1, 3, none⟩ (vs x.data))) := Lib.hid ((((((Chg.refl [w.heap.size, w.heap.size + 1] W83).setCell (.inl (by simp)) (.slice sa2 ((x.cells.length - 1) + 1) sc2)).setCell (.inl (by simp)) (.int .u8 x.kind)).setCell (.inl (by simp)) (.int .i64 x.first)).setCell (.inl (by simp)) (.slice sa2 ((x.cells.length - 1) + 1) sc2)).setCell (.inl (by simp)) (vs x.data))
  have HZ106 := Lib.hid hC105.out.size
  have H_kb_107 : Hid ((((((W83.setCell ⟨w.heap.size, 2, none⟩ (.slice sa2 ((x.cells.length - 1) + 1) sc2)).setCell ⟨w.heap.size + 1, 0, none⟩ (.int .u8 x.kind)).setCell ⟨w.heap.size + 1, 1, none⟩ (.int .i64 x.first)).setCell ⟨w.heap.size + 1, 2, none⟩ (.slice sa2 ((x.cells.length - 1) + 1) sc2)).setCell ⟨w.heap.size + 1, 3, none⟩ (vs x.data)).heap[kb]? = some (.cells #[vs key] 9)) := Lib.hid ((setOff 3 (vs x.data) (by have := HCW.out; have := HKC.out; have := HTC.out; have := HL2.out; have := HL3.out; have := HZ5.out; have := HZ15.out; have := HZ25.out; have := HZ34.out; have := HL40.out; have := HL41.out; have := HL42.out; have := HL43.out; have := HZ45.out; have := HZ55.out; have := HL62.out; have := HL63.out; have := HL64.out; have := HL65.out; have := HZ67.out; have := HL77.out; have := HL78.out; have := HL79.out; have := HL80.out; have := HL81.out; have := HL82.out; have := HZ85.out; have := HL93.out; have := HL94.out; have := HL95.out; have := HL96.out; have := HL97.out; have := HL98.out; have := HL99.out; have := HL100.out; have := HL101.out; have := HL102.out; have := HL103.out; have := HL104.out; omega)).trans ((setOff 2 (.slice sa2 ((x.cells.length - 1) + 1) sc2) (by have := HCW.out; have := HKC.out; have := HTC.out; have := HL2.out; have := HL3.out; have := HZ5.out; have := HZ15.out; have := HZ25.out; have := HZ34.out; have := HL40.out; have := HL41.out; have := HL42.out; have := HL43.out; have := HZ45.out; have := HZ55.out; have := HL62.out; have := HL63.out; have := HL64.out; have := HL65.out; have := HZ67.out; have := HL77.out; have := HL78.out; have := HL79.out; have := HL80.out; have := HL81.out; have := HL82.out; have := HZ85.out; have := HL93.out; have := HL94.out; have := HL95.out; have := HL96.out; have := HL97.out; have := HL98.out; have := HL99.out; have := HL100.out; have := HL101.out; have := HL102.out; have := HL103.out; have := HL104.out; omega)).trans ((setOff 1 (.int .i64 x.first) (by have := HCW.out; have := HKC.out; have := HTC.out; have := HL2.out; have := HL3.out; have := HZ5.out; have := HZ15.out; have := HZ25.out; have := HZ34.out; have := HL40.out; have := HL41.out; have := HL42.out; have := HL43.out; have := HZ45.out; have := HZ55.out; have := HL62.out; have := HL63.out; have := HL64.out; have := HL65.out; have := HZ67.out; have := HL77.out; have := HL78.out; have := HL79.out; have := HL80.out; have := HL81.out; have := HL82.out; have := HZ85.out; have := HL93.out; have := HL94.out; have := HL95.out; have := HL96.out; have := HL97.out; have := HL98.out; have := HL99.out; have := HL100.out; have := HL101.out; have := HL102.out; have := HL103.out; have := HL104.out; omega)).trans ((setOff 0 (.int .u8 x.kind) (by have := HCW.out; have := HKC.out; have := HTC.out; have := HL2.out; have := HL3.out; have := HZ5.out; have := HZ15.out; have := HZ25.out; have := HZ34.out; have := HL40.out; have := HL41.out; have := HL42.out; have := HL43.out; have := HZ45.out; have := HZ55.out; have := HL62.out; have := HL63.out; have := HL64.out; have := HL65.out; have := HZ67.out; have := HL77.out; have := HL78.out; have := HL79.out; have := HL80.out; have := HL81.out; have := HL82.out; have := HZ85.out; have := HL93.out; have := HL94.out; have := HL95.out; have := HL96.out; have := HL97.out; have := HL98.out; have := HL99.out; have := HL100.out; have := HL101.out; have := HL102.out; have := HL103.out; have := HL104.out; omega)).trans ((setOff 2 (.slice sa2 ((x.cells.length - 1) + 1) sc2) (by have := HCW.out; have := HKC.out; have := HTC.out; have := HL2.out; have := HL3.out; have := HZ5.out; have := HZ15.out; have := HZ25.out; have := HZ34.out; have := HL40.out; have := HL41.out; have := HL42.out; have := HL43.out; have := HZ45.out; have := HZ55.out; have := HL62.out; have := HL63.out; have := HL64.out; have := HL65.out; have := HZ67.out; have := HL77.out; have := HL78.out; have := HL79.out; have := HL80.out; have := HL81.out; have := HL82.out; have := HZ85.out; have := HL93.out; have := HL94.out; have := HL95.out; have := HL96.out; have := HL97.out; have := HL98.out; have := HL99.out; have := HL100.out; have := HL101.out; have := HL102.out; have := HL103.out; have := HL104.out; omega)).trans H_kb_86.out)))))
  have H_xb_108 : Hid ((((((W83.setCell ⟨w.heap.size, 2, none⟩ (.slice sa2 ((x.cells.length - 1) + 1) sc2)).setCell ⟨w.heap.size + 1, 0, none⟩ (.int .u8 x.kind)).setCell ⟨w.heap.size + 1, 1, none⟩ (.int .i64 x.first)).setCell ⟨w.heap.size + 1, 2, none⟩ (.slice sa2 ((x.cells.length - 1) + 1) sc2)).setCell ⟨w.heap.size + 1, 3, none⟩ (vs x.data)).heap[xb]? = some (.cells #[vs text] 9)) := Lib.hid ((setOff 3 (vs x.data) (by have := HCW.out; have := HKC.out; have := HTC.out; have := HL2.out; have := HL3.out; have := HZ5.out; have := HZ15.out; have := HZ25.out; have := HZ34.out; have := HL40.out; have := HL41.out; have := HL42.out; have := HL43.out; have := HZ45.out; have := HZ55.out; have := HL62.out; have := HL63.out; have := HL64.out; have := HL65.out; have := HZ67.out; have := HL77.out; have := HL78.out; have := HL79.out; have := HL80.out; have := HL81.out; have := HL82.out; have := HZ85.out; have := HL93.out; have := HL94.out; have := HL95.out; have := HL96.out; have := HL97.out; have := HL98.out; have := HL99.out; have := HL100.out; have := HL101.out; have := HL102.out; have := HL103.out; have := HL104.out; omega)).trans ((setOff 2 (.slice sa2 ((x.cells.length - 1) + 1) sc2) (by have := HCW.out; have := HKC.out; have := HTC.out; have := HL2.out; have := HL3.out; have := HZ5.out; have := HZ15.out; have := HZ25.out; have := HZ34.out; have := HL40.out; have := HL41.out; have := HL42.out; have := HL43.out; have := HZ45.out; have := HZ55.out; have := HL62.out; have := HL63.out; have := HL64.out; have := HL65.out; have := HZ67.out; have := HL77.out; have := HL78.out; have := HL79.out; have := HL80.out; have := HL81.out; have := HL82.out; have := HZ85.out; have := HL93.out; have := HL94.out; have := HL95.out; have := HL96.out; have := HL97.out; have := HL98.out; have := HL99.out; have := HL100.out; have := HL101.out; have := HL102.out; have := HL103.out; have := HL104.out; omega)).trans ((setOff 1 (.int .i64 x.first) (by have := HCW.out; have := HKC.out; have := HTC.out; have := HL2.out; have := HL3.out; have := HZ5.out; have := HZ15.out; have := HZ25.out; have := HZ34.out; have := HL40.out; have := HL41.out; have := HL42.out; have := HL43.out; have := HZ45.out; have := HZ55.out; have := HL62.out; have := HL63.out; have := HL64.out; have := HL65.out; have := HZ67.out; have := HL77.out; have := HL78.out; have := HL79.out; have := HL80.out; have := HL81.out; have := HL82.out; have := HZ85.out; have := HL93.out; have := HL94.out; have := HL95.out; have := HL96.out; have := HL97.out; have := HL98.out; have := HL99.out; have := HL100.out; have := HL101.out; have := HL102.out; have := HL103.out; have := HL104.out; omega)).trans ((setOff 0 (.int .u8 x.kind) (by have := HCW.out; have := HKC.out; have := HTC.out; have := HL2.out; have := HL3.out; have := HZ5.out; have := HZ15.out; have := HZ25.out; have := HZ34.out; have := HL40.out; have := HL41.out; have := HL42.out; have := HL43.out; have := HZ45.out; have := HZ55.out; have := HL62.out; have := HL63.out; have := HL64.out; have := HL65.out; have := HZ67.out; have := HL77.out; have := HL78.out; have := HL79.out; have := HL80.out; have := HL81.out; have := HL82.out; have := HZ85.out; have := HL93.out; have := HL94.out; have := HL95.out; have := HL96.out; have := HL97.out; have := HL98.out; have := HL99.out; have := HL100.out; have := HL101.out; have := HL102.out; have := HL103.out; have := HL104.out; omega)).trans ((setOff 2 (.slice sa2 ((x.cells.length - 1) + 1) sc2) (by have := HCW.out; have := HKC.out; have := HTC.out; have := HL2.out; have := HL3.out; have := HZ5.out; have := HZ15.out; have := HZ25.out; have := HZ34.out; have := HL40.out; have := HL41.out; have := HL42.out; have := HL43.out; have := HZ45.out; have := HZ55.out; have := HL62.out; have := HL63.out; have := HL64.out; have := HL65.out; have := HZ67.out; have := HL77.out; have := HL78.out; have := HL79.out; have := HL80.out; have := HL81.out; have := HL82.out; have := HZ85.out; have := HL93.out; have := HL94.out; have := HL95.out; have := HL96.out; have := HL97.out; have := HL98.out; have := HL99.out; have := HL100.out; have := HL101.out; have := HL102.out; have := HL103.out; have := HL104.out; omega)).trans H_xb_87.out)))))
  have H_x_109 : Hid ((((((W83.setCell ⟨w.heap.size, 2, none⟩ (.slice sa2 ((x.cells.length - 1) + 1) sc2)).setCell ⟨w.heap.size + 1, 0, none⟩ (.int .u8 x.kind)).setCell ⟨w.heap.size + 1, 1, none⟩ (.int .i64 x.first)).setCell ⟨w.heap.size + 1, 2, none⟩ (.slice sa2 ((x.cells.length - 1) + 1) sc2)).setCell ⟨w.heap.size + 1, 3, none⟩ (vs x.data)).heap[w.heap.size]? = some (.cells #[.int .u8 x.kind, .int .i64 x.first, .slice sa2 ((x.cells.length - 1) + 1) sc2, vs x.data] 150)) := Lib.hid ((setOff 3 (vs x.data) (by have := HCW.out; have := HKC.out; have := HTC.out; have := HL2.out; have := HL3.out; have := HZ5.out; have := HZ15.out; have := HZ25.out; have := HZ34.out; have := HL40.out; have := HL41.out; have := HL42.out; have := HL43.out; have := HZ45.out; have := HZ55.out; have := HL62.out; have := HL63.out; have := HL64.out; have := HL65.out; have := HZ67.out; have := HL77.out; have := HL78.out; have := HL79.out; have := HL80.out; have := HL81.out; have := HL82.out; have := HZ85.out; have := HL93.out; have := HL94.out; have := HL95.out; have := HL96.out; have := HL97.out; have := HL98.out; have := HL99.out; have := HL100.out; have := HL101.out; have := HL102.out; have := HL103.out; have := HL104.out; omega)).trans ((setOff 2 (.slice sa2 ((x.cells.length - 1) + 1) sc2) (by have := HCW.out; have := HKC.out; have := HTC.out; have := HL2.out; have := HL3.out; have := HZ5.out; have := HZ15.out; have := HZ25.out; have := HZ34.out; have := HL40.out; have := HL41.out; have := HL42.out; have := HL43.out; have := HZ45.out; have := HZ55.out; have := HL62.out; have := HL63.out; have := HL64.out; have := HL65.out; have := HZ67.out; have := HL77.out; have := HL78.out; have := HL79.out; have := HL80.out; have := HL81.out; have := HL82.out; have := HZ85.out; have := HL93.out; have := HL94.out; have := HL95.out; have := HL96.out; have := HL97.out; have := HL98.out; have := HL99.out; have := HL100.out; have := HL101.out; have := HL102.out; have := HL103.out; have := HL104.out; omega)).trans ((setOff 1 (.int .i64 x.first) (by have := HCW.out; have := HKC.out; have := HTC.out; have := HL2.out; have := HL3.out; have := HZ5.out; have := HZ15.out; have := HZ25.out; have := HZ34.out; have := HL40.out; have := HL41.out; have := HL42.out; have := HL43.out; have := HZ45.out; have := HZ55.out; have := HL62.out; have := HL63.out; have := HL64.out; have := HL65.out; have := HZ67.out; have := HL77.out; have := HL78.out; have := HL79.out; have := HL80.out; have := HL81.out; have := HL82.out; have := HZ85.out; have := HL93.out; have := HL94.out; have := HL95.out; have := HL96.out; have := HL97.out; have := HL98.out; have := HL99.out; have := HL100.out; have := HL101.out; have := HL102.out; have := HL103.out; have := HL104.out; omega)).trans ((setOff 0 (.int .u8 x.kind) (by have := HCW.out; have := HKC.out; have := HTC.out; have := HL2.out; have := HL3.out; have := HZ5.out; have := HZ15.out; have := HZ25.out; have := HZ34.out; have := HL40.out; have := HL41.out; have := HL42.out; have := HL43.out; have := HZ45.out; have := HZ55.out; have := HL62.out; have := HL63.out; have := HL64.out; have := HL65.out; have := HZ67.out; have := HL77.out; have := HL78.out; have := HL79.out; have := HL80.out; have := HL81.out; have := HL82.out; have := HZ85.out; have := HL93.out; have := HL94.out; have := HL95.out; have := HL96.out; have := HL97.out; have := HL98.out; have := HL99.out; have := HL100.out; have := HL101.out; have := HL102.out; have := HL103.out; have := HL104.out; omega)).trans (setAt H_x_88.out 2 (.slice sa2 ((x.cells.length - 1) + 1) sc2))))))
  have H_res_110 : Hid ((((((W83.setCell ⟨w.heap.size, 2, none⟩ (.slice sa2 ((x.cells.length - 1) + 1) sc2)).setCell ⟨w.heap.size + 1, 0, none⟩ (.int .u8 x.kind)).setCell ⟨w.heap.size + 1, 1, none⟩ (.int .i64 x.first)).setCell ⟨w.heap.size + 1, 2, none⟩ (.slice sa2 ((x.cells.length - 1) + 1) sc2)).setCell ⟨w.heap.size + 1, 3, none⟩ (vs x.data)).heap[w.heap.size + 1]? = some (.cells #[.int .u8 x.kind, .int .i64 x.first, .slice sa2 ((x.cells.length - 1) + 1) sc2, vs x.data] 150)) := Lib.hid (setAt (setAt (setAt (setAt ((setOff 2 (.slice sa2 ((x.cells.length - 1) + 1) sc2) (by have := HCW.out; have := HKC.out; have := HTC.out; have := HL2.out; have := HL3.out; have := HZ5.out; have := HZ15.out; have := HZ25.out; have := HZ34.out; have := HL40.out; have := HL41.out; have := HL42.out; have := HL43.out; have := HZ45.out; have := HZ55.out; have := HL62.out; have := HL63.out; have := HL64.out; have := HL65.out; have := HZ67.out; have := HL77.out; have := HL78.out; have := HL79.out; have := HL80.out; have := HL81.out; have := HL82.out; have := HZ85.out; have := HL93.out; have := HL94.out; have := HL95.out; have := HL96.out; have := HL97.out; have := HL98.out; have := HL99.out; have := HL100.out; have := HL101.out; have := HL102.out; have := HL103.out; have := HL104.out; omega)).trans H_res_89.out) 0 (.int .u8 x.kind)) 1 (.int .i64 x.first)) 2 (.slice sa2 ((x.cells.length - 1) + 1) sc2)) 3 (vs x.data))
  have H_c_111 : Hid ((((((W83.setCell ⟨w.heap.size, 2, none⟩ (.slice sa2 ((x.cells.length - 1) + 1) sc2)).setCell ⟨w.heap.size + 1, 0, none⟩ (.int .u8 x.kind)).setCell ⟨w.heap.size + 1, 1, none⟩ (.int .i64 x.first)).setCell ⟨w.heap.size + 1, 2, none⟩ (.slice sa2 ((x.cells.length - 1) + 1) sc2)).setCell ⟨w.heap.size + 1, 3, none⟩ (vs x.data)).heap[W53.heap.size]? = some (.cells #[vs key, .int .i64 text.length, vs text, .int .i64 0] 144)) := Lib.hid ((setOff 3 (vs x.data) (by have := HCW.out; have := HKC.out; have := HTC.out; have := HL2.out; have := HL3.out; have := HZ5.out; have := HZ15.out; have := HZ25.out; have := HZ34.out; have := HL40.out; have := HL41.out; have := HL42.out; have := HL43.out; have := HZ45.out; have := HZ55.out; have := HL62.out; have := HL63.out; have := HL64.out; have := HL65.out; have := HZ67.out; have := HL77.out; have := HL78.out; have := HL79.out; have := HL80.out; have := HL81.out; have := HL82.out; have := HZ85.out; have := HL93.out; have := HL94.out; have := HL95.out; have := HL96.out; have := HL97.out; have := HL98.out; have := HL99.out; have := HL100.out; have := HL101.out; have := HL102.out; have := HL103.out; have := HL104.out; omega)).trans ((setOff 2 (.slice sa2 ((x.cells.length - 1) + 1) sc2) (by have := HCW.out; have := HKC.out; have := HTC.out; have := HL2.out; have := HL3.out; have := HZ5.out; have := HZ15.out; have := HZ25.out; have := HZ34.out; have := HL40.out; have := HL41.out; have := HL42.out; have := HL43.out; have := HZ45.out; have := HZ55.out; have := HL62.out; have := HL63.out; have := HL64.out; have := HL65.out; have := HZ67.out; have := HL77.out; have := HL78.out; have := HL79.out; have := HL80.out; have := HL81.out; have := HL82.out; have := HZ85.out; have := HL93.out; have := HL94.out; have := HL95.out; have := HL96.out; have := HL97.out; have := HL98.out; have := HL99.out; have := HL100.out; have := HL101.out; have := HL102.out; have := HL103.out; have := HL104.out; omega)).trans ((setOff 1 (.int .i64 x.first) (by have := HCW.out; have := HKC.out; have := HTC.out; have := HL2.out; have := HL3.out; have := HZ5.out; have := HZ15.out; have := HZ25.out; have := HZ34.out; have := HL40.out; have := HL41.out; have := HL42.out; have := HL43.out; have := HZ45.out; have := HZ55.out; have := HL62.out; have := HL63.out; have := HL64.out; have := HL65.out; have := HZ67.out; have := HL77.out; have := HL78.out; have := HL79.out; have := HL80.out; have := HL81.out; have := HL82.out; have := HZ85.out; have := HL93.out; have := HL94.out; have := HL95.out; have := HL96.out; have := HL97.out; have := HL98.out; have := HL99.out; have := HL100.out; have := HL101.out; have := HL102.out; have := HL103.out; have := HL104.out; omega)).trans ((setOff 0 (.int .u8 x.kind) (by have := HCW.out; have := HKC.out; have := HTC.out; have := HL2.out; have := HL3.out; have := HZ5.out; have := HZ15.out; have := HZ25.out; have := HZ34.out; have := HL40.out; have := HL41.out; have := HL42.out; have := HL43.out; have := HZ45.out; have := HZ55.out; have := HL62.out; have := HL63.out; have := HL64.out; have := HL65.out; have := HZ67.out; have := HL77.out; have := HL78.out; have := HL79.out; have := HL80.out; have := HL81.out; have := HL82.out; have := HZ85.out; have := HL93.out; have := HL94.out; have := HL95.out; have := HL96.out; have := HL97.out; have := HL98.out; have := HL99.out; have := HL100.out; have := HL101.out; have := HL102.out; have := HL103.out; have := HL104.out; omega)).trans ((setOff 2 (.slice sa2 ((x.cells.length - 1) + 1) sc2) (by have := HCW.out; have := HKC.out; have := HTC.out; have := HL2.out; have := HL3.out; have := HZ5.out; have := HZ15.out; have := HZ25.out; have := HZ34.out; have := HL40.out; have := HL41.out; have := HL42.out; have := HL43.out; have := HZ45.out; have := HZ55.out; have := HL62.out; have := HL63.out; have := HL64.out; have := HL65.out; have := HZ67.out; have := HL77.out; have := HL78.out; have := HL79.out; have := HL80.out; have := HL81.out; have := HL82.out; have := HZ85.out; have := HL93.out; have := HL94.out; have := HL95.out; have := HL96.out; have := HL97.out; have := HL98.out; have := HL99.out; have := HL100.out; have := HL101.out; have := HL102.out; have := HL103.out; have := HL104.out; omega)).trans H_c_90.out)))))
  have H_vb_112 : Hid ((((((W83.setCell ⟨w.heap.size, 2, none⟩ (.slice sa2 ((x.cells.length - 1) + 1) sc2)).setCell ⟨w.heap.size + 1, 0, none⟩ (.int .u8 x.kind)).setCell ⟨w.heap.size + 1, 1, none⟩ (.int .i64 x.first)).setCell ⟨w.heap.size + 1, 2, none⟩ (.slice sa2 ((x.cells.length - 1) + 1) sc2)).setCell ⟨w.heap.size + 1, 3, none⟩ (vs x.data)).heap[W53.heap.size + 1]? = some (.cells #[vs key, .int .i64 text.length, vs text, .int .i64 0] 144)) := Lib.hid ((setOff 3 (vs x.data) (by have := HCW.out; have := HKC.out; have := HTC.out; have := HL2.out; have := HL3.out; have := HZ5.out; have := HZ15.out; have := HZ25.out; have := HZ34.out; have := HL40.out; have := HL41.out; have := HL42.out; have := HL43.out; have := HZ45.out; have := HZ55.out; have := HL62.out; have := HL63.out; have := HL64.out; have := HL65.out; have := HZ67.out; have := HL77.out; have := HL78.out; have := HL79.out; have := HL80.out; have := HL81.out; have := HL82.out; have := HZ85.out; have := HL93.out; have := HL94.out; have := HL95.out; have := HL96.out; have := HL97.out; have := HL98.out; have := HL99.out; have := HL100.out; have := HL101.out; have := HL102.out; have := HL103.out; have := HL104.out; omega)).trans ((setOff 2 (.slice sa2 ((x.cells.length - 1) + 1) sc2) (by have := HCW.out; have := HKC.out; have := HTC.out; have := HL2.out; have := HL3.out; have := HZ5.out; have := HZ15.out; have := HZ25.out; have := HZ34.out; have := HL40.out; have := HL41.out; have := HL42.out; have := HL43.out; have := HZ45.out; have := HZ55.out; have := HL62.out; have := HL63.out; have := HL64.out; have := HL65.out; have := HZ67.out; have := HL77.out; have := HL78.out; have := HL79.out; have := HL80.out; have := HL81.out; have := HL82.out; have := HZ85.out; have := HL93.out; have := HL94.out; have := HL95.out; have := HL96.out; have := HL97.out; have := HL98.out; have := HL99.out; have := HL100.out; have := HL101.out; have := HL102.out; have := HL103.out; have := HL104.out; omega)).trans ((setOff 1 (.int .i64 x.first) (by have := HCW.out; have := HKC.out; have := HTC.out; have := HL2.out; have := HL3.out; have := HZ5.out; have := HZ15.out; have := HZ25.out; have := HZ34.out; have := HL40.out; have := HL41.out; have := HL42.out; have := HL43.out; have := HZ45.out; have := HZ55.out; have := HL62.out; have := HL63.out; have := HL64.out; have := HL65.out; have := HZ67.out; have := HL77.out; have := HL78.out; have := HL79.out; have := HL80.out; have := HL81.out; have := HL82.out; have := HZ85.out; have := HL93.out; have := HL94.out; have := HL95.out; have := HL96.out; have := HL97.out; have := HL98.out; have := HL99.out; have := HL100.out; have := HL101.out; have := HL102.out; have := HL103.out; have := HL104.out; omega)).trans ((setOff 0 (.int .u8 x.kind) (by have := HCW.out; have := HKC.out; have := HTC.out; have := HL2.out; have := HL3.out; have := HZ5.out; have := HZ15.out; have := HZ25.out; have := HZ34.out; have := HL40.out; have := HL41.out; have := HL42.out; have := HL43.out; have := HZ45.out; have := HZ55.out; have := HL62.out; have := HL63.out; have := HL64.out; have := HL65.out; have := HZ67.out; have := HL77.out; have := HL78.out; have := HL79.out; have := HL80.out; have := HL81.out; have := HL82.out; have := HZ85.out; have := HL93.out; have := HL94.out; have := HL95.out; have := HL96.out; have := HL97.out; have := HL98.out; have := HL99.out; have := HL100.out; have := HL101.out; have := HL102.out; have := HL103.out; have := HL104.out; omega)).trans ((setOff 2 (.slice sa2 ((x.cells.length - 1) + 1) sc2) (by have := HCW.out; have := HKC.out; have := HTC.out; have := HL2.out; have := HL3.out; have := HZ5.out; have := HZ15.out; have := HZ25.out; have := HZ34.out; have := HL40.out; have := HL41.out; have := HL42.out; have := HL43.out; have := HZ45.out; have := HZ55.out; have := HL62.out; have := HL63.out; have := HL64.out; have := HL65.out; have := HZ67.out; have := HL77.out; have := HL78.out; have := HL79.out; have := HL80.out; have := HL81.out; have := HL82.out; have := HZ85.out; have := HL93.out; have := HL94.out; have := HL95.out; have := HL96.out; have := HL97.out; have := HL98.out; have := HL99.out; have := HL100.out; have := HL101.out; have := HL102.out; have := HL103.out; have := HL104.out; omega)).trans H_vb_91.out)))))
  have HE113 := Lib.hid (HE92.out.after hC105.out (by intro k hk; have := HCW.out; have := HKC.out; have := HTC.out; have := HL2.out; have := HL3.out; have := HZ5.out; have := HZ15.out; have := HZ25.out; have := HZ34.out; have := HL40.out; have := HL41.out; have := HL42.out; have := HL43.out; have := HZ45.out; have := HZ55.out; have := HL62.out; have := HL63.out; have := HL64.out; have := HL65.out; have := HZ67.out; have := HL77.out; have := HL78.out; have := HL79.out; have := HL80.out; have := HL81.out; have := HL82.out; have := HZ85.out; have := HL93.out; have := HL94.out; have := HL95.out; have := HL96.out; have := HL97.out; have := HL98.out; have := HL99.out; have := HL100.out; have := HL101.out; have := HL102.out; have := HL103.out; have := HL104.out; have := HZ106.out; simp only [List.mem_cons, List.mem_singleton, List.not_mem_nil, or_false] at hk ⊢; omega))
  generalize (((((W83.setCell ⟨w.heap.size, 2, none⟩ (.slice sa2 ((x.cells.length - 1) + 1) sc2)).setCell ⟨w.heap.size + 1, 0, none⟩ (.int .u8 x.kind)).setCell ⟨w.heap.size + 1, 1, none⟩ (.int .i64 x.first)).setCell ⟨w.heap.size + 1, 2, none⟩ (.slice sa2 ((x.cells.length - 1) + 1) sc2)).setCell ⟨w.heap.size + 1, 3, none⟩ (vs x.data)) = W114 at *
  have c_res_0 : W114.cell? ⟨w.heap.size + 1, 0, none⟩ = some (.int .u8 x.kind) := cellAt H_res_110.out 0
  have c_res_1 : W114.cell? ⟨w.heap.size + 1, 1, none⟩ = some (.int .i64 x.first) := cellAt H_res_110.out 1
  have c_res_2 : W114.cell? ⟨w.heap.size + 1, 2, none⟩ = some (.slice sa2 ((x.cells.length - 1) + 1) sc2) := cellAt H_res_110.out 2
  have c_res_3 : W114.cell? ⟨w.heap.size + 1, 3, none⟩ = some (vs x.data) := cellAt H_res_110.out 3
  exact bodyPost_ret (v := .tuple #[.agg #[.int .u8 x.kind, .int .i64 x.first, .slice sa2 ((x.cells.length - 1) + 1) sc2, vs x.data], .int .i64 0]) (by simp [results, Tryz.results70, go_sem, c_res_0, c_res_1, c_res_2, c_res_3]; try rfl) rfl (NodePost.mk (.slice sa2 ((x.cells.length - 1) + 1) sc2) rfl (by rw [putL, HIS.out, if_pos rfl, ← HI.out]; exact crow_off HR2.out hC105.out (by intro k hk; simp only [List.mem_cons, List.not_mem_nil, or_false] at hk; rcases hk with rfl | rfl; exact HNX.out; exact HNR.out)) HE113.out)

end Go.Proofs.YtobmnnihmbdfjaaGreat
