/- A change of a leaf; what becomes of a root. -/
import Derived.Test.YtobmnnihmbdfjaaGreatTree4
set_option linter.all false
namespace Go.Proofs.YtobmnnihmbdfjaaGreat
open Go.RowKit

/-- A changed node is answered. -/
def ChPost (y : NodeM) (z : Int) (tb pb : Nat) (left : Int) (w : World) (e : Ending) (w' : World) : Prop :=
  ∃ v', e = .returned (.tuple #[nodeV y v', .int .i64 z]) ∧ CRow w' w.heap.size v' y.cells ∧ w'.heap[tb]? = some (treeO pb left) ∧ Chg [tb] w w'
theorem ChPost.mk {y : NodeM} {z : Int} {tb pb : Nat} {left : Int} {w w' : World} {e : Ending} (v' : Value) (h1 : e = .returned (.tuple #[nodeV y v', .int .i64 z])) (h2 : CRow w' w.heap.size v' y.cells) (h3 : w'.heap[tb]? = some (treeO pb left)) (h4 : Chg [tb] w w') : ChPost y z tb pb left w e w' := ⟨v', h1, h2, h3, h4⟩

set_option maxRecDepth 100000 in
set_option maxHeartbeats 8000000 in
theorem changed1 (C g : Nat) (cb : Array Value) (x y : NodeM) (z : Int) (v : Value) (tb bd bt : Nat) (w : World) (hr : CRow w C v x.cells) (hCw : C ≤ w.heap.size) (hbd : w.heap[bd]? = some (.cells #[.func (.func g) #[] cb] 157)) (hdC : bd < C) (hbt : w.heap[bt]? = some (.cells #[ptr tb] 141)) (htC : bt < C)
    (eg : ∀ args w, (callFunc g args).run Tryz.prog w = .ok (.enter g args) w) (hin : ∀ W, Below w.heap.size w W → CRow W C v x.cells → Calls Tryz.prog g (#[ptr tb, nodeV x v] ++ cb) W (NodePost C v y z W)) :
    Calls Tryz.prog 139 #[nodeV x v, ptr bd, ptr bt] w (NodePost C v y z w) := by
  have HROW0 := Lib.hid hr
  have HRLO : Hid (∀ g ∈ rowB v, C ≤ g) := Lib.hid (rowB_ge hr)
  have HRHI : Hid (∀ g ∈ rowB v, g < w.heap.size) := Lib.hid (rowB_lt hr)
  have HCW := Lib.hid hCw
  have HBD := Lib.hid hbd
  have HBT := Lib.hid hbt
  have HDC := Lib.hid hdC
  have HTC := Lib.hid htC
  have HIN := Lib.hid hin
  obtain ⟨sa, scap, rfl⟩ := (rowCells hr).slice
  clear hr hCw hbd hbt hin hdC htC
  have HE1 := Lib.hid (Chg.refl (rowB (.slice sa x.cells.length scap)) w)
  go_enter Tryz.func139, Tryz.ntmps139
  go_upto_region 1 with fail
  have HL2 := Lib.hid (lt_of_block HBD.out)
  have HL3 := Lib.hid (lt_of_block HBT.out)
  have hC4 : Hid (Chg [] w ((w.alloc (.cells #[.int .u8 x.kind, .int .i64 x.first, .slice sa x.cells.length scap, vs x.data] 150)).alloc (.cells #[.int .u8 0, .int .i64 0, .slice none 0 0, .string { data := #[] }] 150))) := Lib.hid (((Chg.refl [] w).alloc (.cells #[.int .u8 x.kind, .int .i64 x.first, .slice sa x.cells.length scap, vs x.data] 150)).alloc (.cells #[.int .u8 0, .int .i64 0, .slice none 0 0, .string { data := #[] }] 150))
  have HZ5 := Lib.hid hC4.out.size
  have H_bd_6 : Hid (((w.alloc (.cells #[.int .u8 x.kind, .int .i64 x.first, .slice sa x.cells.length scap, vs x.data] 150)).alloc (.cells #[.int .u8 0, .int .i64 0, .slice none 0 0, .string { data := #[] }] 150)).heap[bd]? = some (.cells #[.func (.func g) #[] cb] 157)) := Lib.hid (heapOld (heapOld HBD.out (.cells #[.int .u8 x.kind, .int .i64 x.first, .slice sa x.cells.length scap, vs x.data] 150)) (.cells #[.int .u8 0, .int .i64 0, .slice none 0 0, .string { data := #[] }] 150))
  have H_bt_7 : Hid (((w.alloc (.cells #[.int .u8 x.kind, .int .i64 x.first, .slice sa x.cells.length scap, vs x.data] 150)).alloc (.cells #[.int .u8 0, .int .i64 0, .slice none 0 0, .string { data := #[] }] 150)).heap[bt]? = some (.cells #[ptr tb] 141)) := Lib.hid (heapOld (heapOld HBT.out (.cells #[.int .u8 x.kind, .int .i64 x.first, .slice sa x.cells.length scap, vs x.data] 150)) (.cells #[.int .u8 0, .int .i64 0, .slice none 0 0, .string { data := #[] }] 150))
  have H_x_8 : Hid (((w.alloc (.cells #[.int .u8 x.kind, .int .i64 x.first, .slice sa x.cells.length scap, vs x.data] 150)).alloc (.cells #[.int .u8 0, .int .i64 0, .slice none 0 0, .string { data := #[] }] 150)).heap[w.heap.size]? = some (.cells #[.int .u8 x.kind, .int .i64 x.first, .slice sa x.cells.length scap, vs x.data] 150)) := Lib.hid (heapOld (heapNew (by simp [World.setCell]) (.cells #[.int .u8 x.kind, .int .i64 x.first, .slice sa x.cells.length scap, vs x.data] 150)) (.cells #[.int .u8 0, .int .i64 0, .slice none 0 0, .string { data := #[] }] 150))
  have H_res_9 : Hid (((w.alloc (.cells #[.int .u8 x.kind, .int .i64 x.first, .slice sa x.cells.length scap, vs x.data] 150)).alloc (.cells #[.int .u8 0, .int .i64 0, .slice none 0 0, .string { data := #[] }] 150)).heap[w.heap.size + 1]? = some (.cells #[.int .u8 0, .int .i64 0, .slice none 0 0, .string { data := #[] }] 150)) := Lib.hid (heapNew (by simp [World.setCell]) (.cells #[.int .u8 0, .int .i64 0, .slice none 0 0, .string { data := #[] }] 150))
  have H_row_10 := Lib.hid (ownsRow_chg2 HROW0.out HRHI.out hC4.out (by simp))
  have HE11 := Lib.hid (HE1.out.after hC4.out (by simp))
  generalize ((w.alloc (.cells #[.int .u8 x.kind, .int .i64 x.first, .slice sa x.cells.length scap, vs x.data] 150)).alloc (.cells #[.int .u8 0, .int .i64 0, .slice none 0 0, .string { data := #[] }] 150)) = W12 at *
  have c_x_0 : W12.cell? ⟨w.heap.size, 0, none⟩ = some (.int .u8 x.kind) := cellAt H_x_8.out 0
  have c_x_1 : W12.cell? ⟨w.heap.size, 1, none⟩ = some (.int .i64 x.first) := cellAt H_x_8.out 1
  have c_x_2 : W12.cell? ⟨w.heap.size, 2, none⟩ = some (.slice sa x.cells.length scap) := cellAt H_x_8.out 2
  have c_x_3 : W12.cell? ⟨w.heap.size, 3, none⟩ = some (vs x.data) := cellAt H_x_8.out 3
  have c_bd_0 : W12.cell? ⟨bd, 0, none⟩ = some (.func (.func g) #[] cb) := cellAt H_bd_6.out 0
  have c_bt_0 : W12.cell? ⟨bt, 0, none⟩ = some (ptr tb) := cellAt H_bt_7.out 0
  go_wp2_with fail
  clear c_x_0 c_x_1 c_x_2 c_x_3 c_bd_0 c_bt_0
  go_at_fn g; refine (HIN.out _ (hC4.out.to_below (Nat.le_refl _) (by simp)) H_row_10.out).mono ?_; rintro e W13 ⟨v1, rfl, hr1, hc1⟩
  have HR1 := Lib.hid hr1
  clear hr1
  have hC14 := Lib.hid hc1
  have HZ15 := Lib.hid hC14.out.size
  have H_bd_16 := Lib.hid (hC14.out.get H_bd_6.out (fun hm => by have q1 := HRLO.out _ hm; have q2 := HRHI.out _ hm; have := HCW.out; have := HDC.out; have := HTC.out; have := HL2.out; have := HL3.out; have := HZ5.out; have := HZ15.out; omega))
  have H_bt_17 := Lib.hid (hC14.out.get H_bt_7.out (fun hm => by have q1 := HRLO.out _ hm; have q2 := HRHI.out _ hm; have := HCW.out; have := HDC.out; have := HTC.out; have := HL2.out; have := HL3.out; have := HZ5.out; have := HZ15.out; omega))
  have H_x_18 := Lib.hid (hC14.out.get H_x_8.out (fun hm => by have q1 := HRLO.out _ hm; have q2 := HRHI.out _ hm; have := HCW.out; have := HDC.out; have := HTC.out; have := HL2.out; have := HL3.out; have := HZ5.out; have := HZ15.out; omega))
  have H_res_19 := Lib.hid (hC14.out.get H_res_9.out (fun hm => by have q1 := HRLO.out _ hm; have q2 := HRHI.out _ hm; have := HCW.out; have := HDC.out; have := HTC.out; have := HL2.out; have := HL3.out; have := HZ5.out; have := HZ15.out; omega))
  have HE20 := Lib.hid (HE11.out.after hC14.out (fun k hk => .inl (by simpa using hk)))
  clear hc1
  obtain ⟨sa1, sc1, rfl⟩ := (rowCells HR1.out).slice
  have HNR : Hid (w.heap.size + 1 ∉ rowB (.slice sa1 y.cells.length sc1)) := Lib.hid (fun hm => by have q := crow_type HR1.out _ hm; rw [H_res_19.out] at q; simp at q)
  have c_res_0 : W13.cell? ⟨w.heap.size + 1, 0, none⟩ = some (.int .u8 0) := cellAt H_res_19.out 0
  have c_res_1 : W13.cell? ⟨w.heap.size + 1, 1, none⟩ = some (.int .i64 0) := cellAt H_res_19.out 1
  have c_res_2 : W13.cell? ⟨w.heap.size + 1, 2, none⟩ = some (.slice none 0 0) := cellAt H_res_19.out 2
  have c_res_3 : W13.cell? ⟨w.heap.size + 1, 3, none⟩ = some (.string { data := #[] }) := cellAt H_res_19.out 3
  have f_res_0 : W13.frozen? ⟨w.heap.size + 1, 0, none⟩ = false := freeAt H_res_19.out 0
  have f_res_1 : W13.frozen? ⟨w.heap.size + 1, 1, none⟩ = false := freeAt H_res_19.out 1
  have f_res_2 : W13.frozen? ⟨w.heap.size + 1, 2, none⟩ = false := freeAt H_res_19.out 2
  have f_res_3 : W13.frozen? ⟨w.heap.size + 1, 3, none⟩ = false := freeAt H_res_19.out 3
  go_wp2_with fail
  clear c_res_0 c_res_1 c_res_2 c_res_3 f_res_0 f_res_1 f_res_2 f_res_3
  have HL21 := Lib.hid (lt_of_block H_bd_16.out)
  have HL22 := Lib.hid (lt_of_block H_bt_17.out)
  have HL23 := Lib.hid (lt_of_block H_x_18.out)
  have HL24 := Lib.hid (lt_of_block H_res_19.out)
  have hC25 : Hid (Chg [w.heap.size + 1] W13 ((((W13.setCell ⟨w.heap.size + 1, 0, none⟩ (.int .u8 y.kind)).setCell ⟨w.heap.size + 1, 1, none⟩ (.int .i64 y.first)).setCell ⟨w.heap.size + 1, 2, none⟩ (.slice sa1 y.cells.length sc1)).setCell ⟨w.heap.size + 1, 3, none⟩ (vs y.data))) := Lib.hid (((((Chg.refl [w.heap.size + 1] W13).setCell (.inl (by simp)) (.int .u8 y.kind)).setCell (.inl (by simp)) (.int .i64 y.first)).setCell (.inl (by simp)) (.slice sa1 y.cells.length sc1)).setCell (.inl (by simp)) (vs y.data))
  have HZ26 := Lib.hid hC25.out.size
  have H_bd_27 : Hid (((((W13.setCell ⟨w.heap.size + 1, 0, none⟩ (.int .u8 y.kind)).setCell ⟨w.heap.size + 1, 1, none⟩ (.int .i64 y.first)).setCell ⟨w.heap.size + 1, 2, none⟩ (.slice sa1 y.cells.length sc1)).setCell ⟨w.heap.size + 1, 3, none⟩ (vs y.data)).heap[bd]? = some (.cells #[.func (.func g) #[] cb] 157)) := Lib.hid ((setOff 3 (vs y.data) (by have := HCW.out; have := HDC.out; have := HTC.out; have := HL2.out; have := HL3.out; have := HZ5.out; have := HZ15.out; have := HL21.out; have := HL22.out; have := HL23.out; have := HL24.out; omega)).trans ((setOff 2 (.slice sa1 y.cells.length sc1) (by have := HCW.out; have := HDC.out; have := HTC.out; have := HL2.out; have := HL3.out; have := HZ5.out; have := HZ15.out; have := HL21.out; have := HL22.out; have := HL23.out; have := HL24.out; omega)).trans ((setOff 1 (.int .i64 y.first) (by have := HCW.out; have := HDC.out; have := HTC.out; have := HL2.out; have := HL3.out; have := HZ5.out; have := HZ15.out; have := HL21.out; have := HL22.out; have := HL23.out; have := HL24.out; omega)).trans ((setOff 0 (.int .u8 y.kind) (by have := HCW.out; have := HDC.out; have := HTC.out; have := HL2.out; have := HL3.out; have := HZ5.out; have := HZ15.out; have := HL21.out; have := HL22.out; have := HL23.out; have := HL24.out; omega)).trans H_bd_16.out))))
  have H_bt_28 : Hid (((((W13.setCell ⟨w.heap.size + 1, 0, none⟩ (.int .u8 y.kind)).setCell ⟨w.heap.size + 1, 1, none⟩ (.int .i64 y.first)).setCell ⟨w.heap.size + 1, 2, none⟩ (.slice sa1 y.cells.length sc1)).setCell ⟨w.heap.size + 1, 3, none⟩ (vs y.data)).heap[bt]? = some (.cells #[ptr tb] 141)) := Lib.hid ((setOff 3 (vs y.data) (by have := HCW.out; have := HDC.out; have := HTC.out; have := HL2.out; have := HL3.out; have := HZ5.out; have := HZ15.out; have := HL21.out; have := HL22.out; have := HL23.out; have := HL24.out; omega)).trans ((setOff 2 (.slice sa1 y.cells.length sc1) (by have := HCW.out; have := HDC.out; have := HTC.out; have := HL2.out; have := HL3.out; have := HZ5.out; have := HZ15.out; have := HL21.out; have := HL22.out; have := HL23.out; have := HL24.out; omega)).trans ((setOff 1 (.int .i64 y.first) (by have := HCW.out; have := HDC.out; have := HTC.out; have := HL2.out; have := HL3.out; have := HZ5.out; have := HZ15.out; have := HL21.out; have := HL22.out; have := HL23.out; have := HL24.out; omega)).trans ((setOff 0 (.int .u8 y.kind) (by have := HCW.out; have := HDC.out; have := HTC.out; have := HL2.out; have := HL3.out; have := HZ5.out; have := HZ15.out; have := HL21.out; have := HL22.out; have := HL23.out; have := HL24.out; omega)).trans H_bt_17.out))))
  have H_x_29 : Hid (((((W13.setCell ⟨w.heap.size + 1, 0, none⟩ (.int .u8 y.kind)).setCell ⟨w.heap.size + 1, 1, none⟩ (.int .i64 y.first)).setCell ⟨w.heap.size + 1, 2, none⟩ (.slice sa1 y.cells.length sc1)).setCell ⟨w.heap.size + 1, 3, none⟩ (vs y.data)).heap[w.heap.size]? = some (.cells #[.int .u8 x.kind, .int .i64 x.first, .slice sa x.cells.length scap, vs x.data] 150)) := Lib.hid ((setOff 3 (vs y.data) (by have := HCW.out; have := HDC.out; have := HTC.out; have := HL2.out; have := HL3.out; have := HZ5.out; have := HZ15.out; have := HL21.out; have := HL22.out; have := HL23.out; have := HL24.out; omega)).trans ((setOff 2 (.slice sa1 y.cells.length sc1) (by have := HCW.out; have := HDC.out; have := HTC.out; have := HL2.out; have := HL3.out; have := HZ5.out; have := HZ15.out; have := HL21.out; have := HL22.out; have := HL23.out; have := HL24.out; omega)).trans ((setOff 1 (.int .i64 y.first) (by have := HCW.out; have := HDC.out; have := HTC.out; have := HL2.out; have := HL3.out; have := HZ5.out; have := HZ15.out; have := HL21.out; have := HL22.out; have := HL23.out; have := HL24.out; omega)).trans ((setOff 0 (.int .u8 y.kind) (by have := HCW.out; have := HDC.out; have := HTC.out; have := HL2.out; have := HL3.out; have := HZ5.out; have := HZ15.out; have := HL21.out; have := HL22.out; have := HL23.out; have := HL24.out; omega)).trans H_x_18.out))))
  have H_res_30 : Hid (((((W13.setCell ⟨w.heap.size + 1, 0, none⟩ (.int .u8 y.kind)).setCell ⟨w.heap.size + 1, 1, none⟩ (.int .i64 y.first)).setCell ⟨w.heap.size + 1, 2, none⟩ (.slice sa1 y.cells.length sc1)).setCell ⟨w.heap.size + 1, 3, none⟩ (vs y.data)).heap[w.heap.size + 1]? = some (.cells #[.int .u8 y.kind, .int .i64 y.first, .slice sa1 y.cells.length sc1, vs y.data] 150)) := Lib.hid (setAt (setAt (setAt (setAt H_res_19.out 0 (.int .u8 y.kind)) 1 (.int .i64 y.first)) 2 (.slice sa1 y.cells.length sc1)) 3 (vs y.data))
  have HE31 := Lib.hid (HE20.out.after hC25.out (by intro k hk; have := HCW.out; have := HDC.out; have := HTC.out; have := HL2.out; have := HL3.out; have := HZ5.out; have := HZ15.out; have := HL21.out; have := HL22.out; have := HL23.out; have := HL24.out; have := HZ26.out; simp only [List.mem_cons, List.mem_singleton, List.not_mem_nil, or_false] at hk ⊢; omega))
  generalize ((((W13.setCell ⟨w.heap.size + 1, 0, none⟩ (.int .u8 y.kind)).setCell ⟨w.heap.size + 1, 1, none⟩ (.int .i64 y.first)).setCell ⟨w.heap.size + 1, 2, none⟩ (.slice sa1 y.cells.length sc1)).setCell ⟨w.heap.size + 1, 3, none⟩ (vs y.data)) = W32 at *
  have c_res_0 : W32.cell? ⟨w.heap.size + 1, 0, none⟩ = some (.int .u8 y.kind) := cellAt H_res_30.out 0
  have c_res_1 : W32.cell? ⟨w.heap.size + 1, 1, none⟩ = some (.int .i64 y.first) := cellAt H_res_30.out 1
  have c_res_2 : W32.cell? ⟨w.heap.size + 1, 2, none⟩ = some (.slice sa1 y.cells.length sc1) := cellAt H_res_30.out 2
  have c_res_3 : W32.cell? ⟨w.heap.size + 1, 3, none⟩ = some (vs y.data) := cellAt H_res_30.out 3
  exact bodyPost_ret (v := .tuple #[.agg #[.int .u8 y.kind, .int .i64 y.first, .slice sa1 y.cells.length sc1, vs y.data], .int .i64 z]) (by simp [results, Tryz.results139, go_sem, c_res_0, c_res_1, c_res_2, c_res_3]; try rfl) rfl (NodePost.mk (.slice sa1 y.cells.length sc1) rfl (crow_off HR1.out hC25.out (by intro k hk; simp only [List.mem_cons, List.not_mem_nil, or_false] at hk; rcases hk with rfl; exact HNR.out)) HE31.out)

set_option maxRecDepth 100000 in
set_option maxHeartbeats 8000000 in
theorem change_leaf {B w pb tt mb lb L sv op base tx} (h : PgB B w pb tt mb lb L sv op base tx) (tb : Nat) (hB : B ≤ tb) (left page depth : Int) (hl0 : 1 ≤ left) (hl9 : left ≤ 1000) (ht : w.heap[tb]? = some (treeO pb left)) (key : List UInt8) (x y : NodeM) (z : Int) (g : Nat) (cb : Array Value)
    (hlen : (tx.view base page).length ≤ 100000) (hrd : readN base tx left page [1, 2] = some x) (hk : x.kind = 1) (eg : ∀ args w, (callFunc g args).run Tryz.prog w = .ok (.enter g args) w)
    (hdo : ∀ W v, Chg [tb] w W → CRow W w.heap.size v x.cells → Calls Tryz.prog g (#[nodeV x v] ++ cb) W (NodePost w.heap.size v y z W)) :
    Calls Tryz.prog 138 #[ptr tb, .int .i64 page, vs key, .int .i64 depth, .func (.func g) #[] cb] w (ChPost y z tb pb (left - 1) w) := by
  have HPG := Lib.hid h
  have HBT := Lib.hid hB
  have HT0 := Lib.hid ht
  have HBW := Lib.hid h.le
  have HRD := Lib.hid hrd
  have HDO := Lib.hid hdo
  have HVL := Lib.hid hlen
  clear h hB ht hrd hdo hlen
  have HE1 := Lib.hid (Chg.refl [tb] w)
  have HTW := Lib.hid (lt_of_block HT0.out)
  go_enter Tryz.func138, Tryz.ntmps138
  go_wp2_with fail
  have HL2 := Lib.hid (lt_of_block HT0.out)
  have hC3 : Hid (Chg [] w ((w.alloc (.cells #[.int .u8 0, .int .i64 0, .slice none 0 0, .string { data := #[] }] 150)).alloc (.cells #[.int .u8 1, .int .u8 2] 5))) := Lib.hid (((Chg.refl [] w).alloc (.cells #[.int .u8 0, .int .i64 0, .slice none 0 0, .string { data := #[] }] 150)).alloc (.cells #[.int .u8 1, .int .u8 2] 5))
  have HZ4 := Lib.hid hC3.out.size
  have H_t_5 : Hid (((w.alloc (.cells #[.int .u8 0, .int .i64 0, .slice none 0 0, .string { data := #[] }] 150)).alloc (.cells #[.int .u8 1, .int .u8 2] 5)).heap[tb]? = some (.cells #[ptr pb, .int .i64 left] 213)) := Lib.hid (heapOld (heapOld HT0.out (.cells #[.int .u8 0, .int .i64 0, .slice none 0 0, .string { data := #[] }] 150)) (.cells #[.int .u8 1, .int .u8 2] 5))
  have H_res_6 : Hid (((w.alloc (.cells #[.int .u8 0, .int .i64 0, .slice none 0 0, .string { data := #[] }] 150)).alloc (.cells #[.int .u8 1, .int .u8 2] 5)).heap[w.heap.size]? = some (.cells #[.int .u8 0, .int .i64 0, .slice none 0 0, .string { data := #[] }] 150)) := Lib.hid (heapOld (heapNew (by simp [World.setCell]) (.cells #[.int .u8 0, .int .i64 0, .slice none 0 0, .string { data := #[] }] 150)) (.cells #[.int .u8 1, .int .u8 2] 5))
  have H_kinds_7 : Hid (((w.alloc (.cells #[.int .u8 0, .int .i64 0, .slice none 0 0, .string { data := #[] }] 150)).alloc (.cells #[.int .u8 1, .int .u8 2] 5)).heap[w.heap.size + 1]? = some (.cells #[.int .u8 1, .int .u8 2] 5)) := Lib.hid (heapNew (by simp [World.setCell]) (.cells #[.int .u8 1, .int .u8 2] 5))
  have H_pg_8 := Lib.hid (PgB.kept HPG.out hC3.out (by simp))
  have HE9 := Lib.hid (HE1.out.after hC3.out (by simp))
  generalize ((w.alloc (.cells #[.int .u8 0, .int .i64 0, .slice none 0 0, .string { data := #[] }] 150)).alloc (.cells #[.int .u8 1, .int .u8 2] 5)) = W10 at *
  have HL11 := Lib.hid (lt_of_block H_t_5.out)
  have HL12 := Lib.hid (lt_of_block H_res_6.out)
  have HL13 := Lib.hid (lt_of_block H_kinds_7.out)
  go_at_call 144; refine (tread_any H_pg_8.out tb HBT.out left page (by omega) (by omega) H_t_5.out [1, 2] (by decide) (w.heap.size + 1) 2 (by have := HBT.out; have := HBW.out; have := HTW.out; have := HL2.out; have := HZ4.out; have := HL11.out; have := HL12.out; have := HL13.out; omega) H_kinds_7.out HVL.out).mono ?_; rintro e W14 ⟨v, he, hr, ht', hc'⟩
  rw [HRD.out] at he hr
  obtain rfl := he
  simp only [Option.getD_some, Option.isSome_some, if_true] at hr ⊢
  have HROW := Lib.hid hr
  clear hr
  have hC15 := Lib.hid hc'
  have HZ16 := Lib.hid hC15.out.size
  have H_t_17 : Hid (W14.heap[tb]? = some (treeO pb (left - 1))) := Lib.hid ht'
  have H_res_18 := Lib.hid (hC15.out.get H_res_6.out (by have := HBT.out; have := HBW.out; have := HTW.out; have := HL2.out; have := HZ4.out; have := HL11.out; have := HL12.out; have := HL13.out; have := HZ16.out; simp only [List.mem_cons, List.mem_singleton, List.not_mem_nil, or_false, not_or, not_false_eq_true]; omega))
  have H_kinds_19 := Lib.hid (hC15.out.get H_kinds_7.out (by have := HBT.out; have := HBW.out; have := HTW.out; have := HL2.out; have := HZ4.out; have := HL11.out; have := HL12.out; have := HL13.out; have := HZ16.out; simp only [List.mem_cons, List.mem_singleton, List.not_mem_nil, or_false, not_or, not_false_eq_true]; omega))
  have H_pg_20 := Lib.hid (PgB.kept H_pg_8.out hC15.out (by intro k hk; have := HBT.out; have := HBW.out; have := HTW.out; have := HL2.out; have := HZ4.out; have := HL11.out; have := HL12.out; have := HL13.out; have := HZ16.out; simp only [List.mem_cons, List.mem_singleton, List.not_mem_nil, or_false] at hk; omega))
  have HE21 := Lib.hid (HE9.out.after hC15.out (by intro k hk; have := HBT.out; have := HBW.out; have := HTW.out; have := HL2.out; have := HZ4.out; have := HL11.out; have := HL12.out; have := HL13.out; have := HZ16.out; simp only [List.mem_cons, List.mem_singleton, List.not_mem_nil, or_false] at hk ⊢; omega))
  clear hc' ht'
  obtain ⟨sa, scap, hv⟩ := (rowCells HROW.out).slice
  subst hv
  obtain ⟨k, f, cs, d⟩ := x
  simp only at hk
  subst hk
  skip
  have HRLO : Hid (∀ g ∈ rowB (.slice sa cs.length scap), W10.heap.size ≤ g) := Lib.hid (rowB_ge HROW.out)
  have HRHI : Hid (∀ g ∈ rowB (.slice sa cs.length scap), g < W14.heap.size) := Lib.hid (rowB_lt HROW.out)
  go_wp2_with fail
  have HL22 := Lib.hid (lt_of_block H_t_17.out)
  have HL23 := Lib.hid (lt_of_block H_res_18.out)
  have HL24 := Lib.hid (lt_of_block H_kinds_19.out)
  have hC25 : Hid (Chg [] W14 (W14.alloc (.cells #[.int .u8 1, .int .i64 f, .slice sa cs.length scap, vs d] 150))) := Lib.hid ((Chg.refl [] W14).alloc (.cells #[.int .u8 1, .int .i64 f, .slice sa cs.length scap, vs d] 150))
  have HZ26 := Lib.hid hC25.out.size
  have H_t_27 : Hid ((W14.alloc (.cells #[.int .u8 1, .int .i64 f, .slice sa cs.length scap, vs d] 150)).heap[tb]? = some (treeO pb (left - 1))) := Lib.hid (heapOld H_t_17.out (.cells #[.int .u8 1, .int .i64 f, .slice sa cs.length scap, vs d] 150))
  have H_res_28 : Hid ((W14.alloc (.cells #[.int .u8 1, .int .i64 f, .slice sa cs.length scap, vs d] 150)).heap[w.heap.size]? = some (.cells #[.int .u8 0, .int .i64 0, .slice none 0 0, .string { data := #[] }] 150)) := Lib.hid (heapOld H_res_18.out (.cells #[.int .u8 1, .int .i64 f, .slice sa cs.length scap, vs d] 150))
  have H_kinds_29 : Hid ((W14.alloc (.cells #[.int .u8 1, .int .i64 f, .slice sa cs.length scap, vs d] 150)).heap[w.heap.size + 1]? = some (.cells #[.int .u8 1, .int .u8 2] 5)) := Lib.hid (heapOld H_kinds_19.out (.cells #[.int .u8 1, .int .i64 f, .slice sa cs.length scap, vs d] 150))
  have H_x_30 : Hid ((W14.alloc (.cells #[.int .u8 1, .int .i64 f, .slice sa cs.length scap, vs d] 150)).heap[W14.heap.size]? = some (.cells #[.int .u8 1, .int .i64 f, .slice sa cs.length scap, vs d] 150)) := Lib.hid (heapNew (by simp [World.setCell]) (.cells #[.int .u8 1, .int .i64 f, .slice sa cs.length scap, vs d] 150))
  have H_pg_31 := Lib.hid (PgB.kept H_pg_20.out hC25.out (by simp))
  have H_row_32 := Lib.hid (ownsRow_chg2 HROW.out HRHI.out hC25.out (by simp))
  have HE33 := Lib.hid (HE21.out.after hC25.out (by simp))
  generalize (W14.alloc (.cells #[.int .u8 1, .int .i64 f, .slice sa cs.length scap, vs d] 150)) = W34 at *
  have HRW2 : Hid (CRow W34 w.heap.size (.slice sa cs.length scap) cs) := Lib.hid (ownsRow_low H_row_32.out (by have := HBT.out; have := HBW.out; have := HTW.out; have := HL2.out; have := HZ4.out; have := HL11.out; have := HL12.out; have := HL13.out; have := HZ16.out; have := HL22.out; have := HL23.out; have := HL24.out; have := HZ26.out; omega))
  go_at_fn g; refine (HDO.out _ (.slice sa cs.length scap) HE33.out HRW2.out).mono ?_; rintro e W35 ⟨v1, rfl, hr1, hc1⟩
  have HR1 := Lib.hid hr1
  clear hr1
  have hC36 := Lib.hid hc1
  have HZ37 := Lib.hid hC36.out.size
  have H_t_38 := Lib.hid (hC36.out.get H_t_27.out (fun hm => by have q1 := HRLO.out _ hm; have q2 := HRHI.out _ hm; have := HBT.out; have := HBW.out; have := HTW.out; have := HL2.out; have := HZ4.out; have := HL11.out; have := HL12.out; have := HL13.out; have := HZ16.out; have := HL22.out; have := HL23.out; have := HL24.out; have := HZ26.out; have := HZ37.out; omega))
  have H_res_39 := Lib.hid (hC36.out.get H_res_28.out (fun hm => by have q1 := HRLO.out _ hm; have q2 := HRHI.out _ hm; have := HBT.out; have := HBW.out; have := HTW.out; have := HL2.out; have := HZ4.out; have := HL11.out; have := HL12.out; have := HL13.out; have := HZ16.out; have := HL22.out; have := HL23.out; have := HL24.out; have := HZ26.out; have := HZ37.out; omega))
  have H_kinds_40 := Lib.hid (hC36.out.get H_kinds_29.out (fun hm => by have q1 := HRLO.out _ hm; have q2 := HRHI.out _ hm; have := HBT.out; have := HBW.out; have := HTW.out; have := HL2.out; have := HZ4.out; have := HL11.out; have := HL12.out; have := HL13.out; have := HZ16.out; have := HL22.out; have := HL23.out; have := HL24.out; have := HZ26.out; have := HZ37.out; omega))
  have H_x_41 := Lib.hid (hC36.out.get H_x_30.out (fun hm => by have q1 := HRLO.out _ hm; have q2 := HRHI.out _ hm; have := HBT.out; have := HBW.out; have := HTW.out; have := HL2.out; have := HZ4.out; have := HL11.out; have := HL12.out; have := HL13.out; have := HZ16.out; have := HL22.out; have := HL23.out; have := HL24.out; have := HZ26.out; have := HZ37.out; omega))
  have H_pg_42 := Lib.hid (PgB.kept H_pg_31.out hC36.out (by intro k hk; have q1 := HRLO.out k hk; have q2 := HRHI.out k hk; have := HBT.out; have := HBW.out; have := HTW.out; have := HL2.out; have := HZ4.out; have := HL11.out; have := HL12.out; have := HL13.out; have := HZ16.out; have := HL22.out; have := HL23.out; have := HL24.out; have := HZ26.out; have := HZ37.out; omega))
  have HE43 := Lib.hid (HE33.out.after hC36.out (fun k hk => .inr (by have q1 := HRLO.out k hk; have := HBT.out; have := HBW.out; have := HTW.out; have := HL2.out; have := HZ4.out; have := HL11.out; have := HL12.out; have := HL13.out; have := HZ16.out; have := HL22.out; have := HL23.out; have := HL24.out; have := HZ26.out; have := HZ37.out; omega)))
  clear hc1
  obtain ⟨sa1, sc1, hv1⟩ := (rowCells HR1.out).slice
  subst hv1
  have HNR : Hid (w.heap.size ∉ rowB (.slice sa1 y.cells.length sc1)) := Lib.hid (fun hm => by have q := crow_type HR1.out _ hm; rw [H_res_39.out] at q; simp at q)
  have c_res_0 : W35.cell? ⟨w.heap.size, 0, none⟩ = some (.int .u8 0) := cellAt H_res_39.out 0
  have c_res_1 : W35.cell? ⟨w.heap.size, 1, none⟩ = some (.int .i64 0) := cellAt H_res_39.out 1
  have c_res_2 : W35.cell? ⟨w.heap.size, 2, none⟩ = some (.slice none 0 0) := cellAt H_res_39.out 2
  have c_res_3 : W35.cell? ⟨w.heap.size, 3, none⟩ = some (.string { data := #[] }) := cellAt H_res_39.out 3
  have f_res_0 : W35.frozen? ⟨w.heap.size, 0, none⟩ = false := freeAt H_res_39.out 0
  have f_res_1 : W35.frozen? ⟨w.heap.size, 1, none⟩ = false := freeAt H_res_39.out 1
  have f_res_2 : W35.frozen? ⟨w.heap.size, 2, none⟩ = false := freeAt H_res_39.out 2
  have f_res_3 : W35.frozen? ⟨w.heap.size, 3, none⟩ = false := freeAt H_res_39.out 3
  go_wp2_with fail
  clear c_res_0 c_res_1 c_res_2 c_res_3 f_res_0 f_res_1 f_res_2 f_res_3
  have HL44 := Lib.hid (lt_of_block H_t_38.out)
  have HL45 := Lib.hid (lt_of_block H_res_39.out)
  have HL46 := Lib.hid (lt_of_block H_kinds_40.out)
  have HL47 := Lib.hid (lt_of_block H_x_41.out)
  have hC48 : Hid (Chg [w.heap.size] W35 ((((W35.setCell ⟨w.heap.size, 0, none⟩ (.int .u8 y.kind)).setCell ⟨w.heap.size, 1, none⟩ (.int .i64 y.first)).setCell ⟨w.heap.size, 2, none⟩ (.slice sa1 y.cells.length sc1)).setCell ⟨w.heap.size, 3, none⟩ (vs y.data))) := Lib.hid (((((Chg.refl [w.heap.size] W35).setCell (.inl (by simp)) (.int .u8 y.kind)).setCell (.inl (by simp)) (.int .i64 y.first)).setCell (.inl (by simp)) (.slice sa1 y.cells.length sc1)).setCell (.inl (by simp)) (vs y.data))
  have HZ49 := Lib.hid hC48.out.size
  have H_t_50 : Hid (((((W35.setCell ⟨w.heap.size, 0, none⟩ (.int .u8 y.kind)).setCell ⟨w.heap.size, 1, none⟩ (.int .i64 y.first)).setCell ⟨w.heap.size, 2, none⟩ (.slice sa1 y.cells.length sc1)).setCell ⟨w.heap.size, 3, none⟩ (vs y.data)).heap[tb]? = some (treeO pb (left - 1))) := Lib.hid ((setOff 3 (vs y.data) (by have := HBT.out; have := HBW.out; have := HTW.out; have := HL2.out; have := HZ4.out; have := HL11.out; have := HL12.out; have := HL13.out; have := HZ16.out; have := HL22.out; have := HL23.out; have := HL24.out; have := HZ26.out; have := HZ37.out; have := HL44.out; have := HL45.out; have := HL46.out; have := HL47.out; omega)).trans ((setOff 2 (.slice sa1 y.cells.length sc1) (by have := HBT.out; have := HBW.out; have := HTW.out; have := HL2.out; have := HZ4.out; have := HL11.out; have := HL12.out; have := HL13.out; have := HZ16.out; have := HL22.out; have := HL23.out; have := HL24.out; have := HZ26.out; have := HZ37.out; have := HL44.out; have := HL45.out; have := HL46.out; have := HL47.out; omega)).trans ((setOff 1 (.int .i64 y.first) (by have := HBT.out; have := HBW.out; have := HTW.out; have := HL2.out; have := HZ4.out; have := HL11.out; have := HL12.out; have := HL13.out; have := HZ16.out; have := HL22.out; have := HL23.out; have := HL24.out; have := HZ26.out; have := HZ37.out; have := HL44.out; have := HL45.out; have := HL46.out; have := HL47.out; omega)).trans ((setOff 0 (.int .u8 y.kind) (by have := HBT.out; have := HBW.out; have := HTW.out; have := HL2.out; have := HZ4.out; have := HL11.out; have := HL12.out; have := HL13.out; have := HZ16.out; have := HL22.out; have := HL23.out; have := HL24.out; have := HZ26.out; have := HZ37.out; have := HL44.out; have := HL45.out; have := HL46.out; have := HL47.out; omega)).trans H_t_38.out))))
  have H_res_51 : Hid (((((W35.setCell ⟨w.heap.size, 0, none⟩ (.int .u8 y.kind)).setCell ⟨w.heap.size, 1, none⟩ (.int .i64 y.first)).setCell ⟨w.heap.size, 2, none⟩ (.slice sa1 y.cells.length sc1)).setCell ⟨w.heap.size, 3, none⟩ (vs y.data)).heap[w.heap.size]? = some (.cells #[.int .u8 y.kind, .int .i64 y.first, .slice sa1 y.cells.length sc1, vs y.data] 150)) := Lib.hid (setAt (setAt (setAt (setAt H_res_39.out 0 (.int .u8 y.kind)) 1 (.int .i64 y.first)) 2 (.slice sa1 y.cells.length sc1)) 3 (vs y.data))
  have H_kinds_52 : Hid (((((W35.setCell ⟨w.heap.size, 0, none⟩ (.int .u8 y.kind)).setCell ⟨w.heap.size, 1, none⟩ (.int .i64 y.first)).setCell ⟨w.heap.size, 2, none⟩ (.slice sa1 y.cells.length sc1)).setCell ⟨w.heap.size, 3, none⟩ (vs y.data)).heap[w.heap.size + 1]? = some (.cells #[.int .u8 1, .int .u8 2] 5)) := Lib.hid ((setOff 3 (vs y.data) (by have := HBT.out; have := HBW.out; have := HTW.out; have := HL2.out; have := HZ4.out; have := HL11.out; have := HL12.out; have := HL13.out; have := HZ16.out; have := HL22.out; have := HL23.out; have := HL24.out; have := HZ26.out; have := HZ37.out; have := HL44.out; have := HL45.out; have := HL46.out; have := HL47.out; omega)).trans ((setOff 2 (.slice sa1 y.cells.length sc1) (by have := HBT.out; have := HBW.out; have := HTW.out; have := HL2.out; have := HZ4.out; have := HL11.out; have := HL12.out; have := HL13.out; have := HZ16.out; have := HL22.out; have := HL23.out; have := HL24.out; have := HZ26.out; have := HZ37.out; have := HL44.out; have := HL45.out; have := HL46.out; have := HL47.out; omega)).trans ((setOff 1 (.int .i64 y.first) (by have := HBT.out; have := HBW.out; have := HTW.out; have := HL2.out; have := HZ4.out; have := HL11.out; have := HL12.out; have := HL13.out; have := HZ16.out; have := HL22.out; have := HL23.out; have := HL24.out; have := HZ26.out; have := HZ37.out; have := HL44.out; have := HL45.out; have := HL46.out; have := HL47.out; omega)).trans ((setOff 0 (.int .u8 y.kind) (by have := HBT.out; have := HBW.out; have := HTW.out; have := HL2.out; have := HZ4.out; have := HL11.out; have := HL12.out; have := HL13.out; have := HZ16.out; have := HL22.out; have := HL23.out; have := HL24.out; have := HZ26.out; have := HZ37.out; have := HL44.out; have := HL45.out; have := HL46.out; have := HL47.out; omega)).trans H_kinds_40.out))))
  have H_x_53 : Hid (((((W35.setCell ⟨w.heap.size, 0, none⟩ (.int .u8 y.kind)).setCell ⟨w.heap.size, 1, none⟩ (.int .i64 y.first)).setCell ⟨w.heap.size, 2, none⟩ (.slice sa1 y.cells.length sc1)).setCell ⟨w.heap.size, 3, none⟩ (vs y.data)).heap[W14.heap.size]? = some (.cells #[.int .u8 1, .int .i64 f, .slice sa cs.length scap, vs d] 150)) := Lib.hid ((setOff 3 (vs y.data) (by have := HBT.out; have := HBW.out; have := HTW.out; have := HL2.out; have := HZ4.out; have := HL11.out; have := HL12.out; have := HL13.out; have := HZ16.out; have := HL22.out; have := HL23.out; have := HL24.out; have := HZ26.out; have := HZ37.out; have := HL44.out; have := HL45.out; have := HL46.out; have := HL47.out; omega)).trans ((setOff 2 (.slice sa1 y.cells.length sc1) (by have := HBT.out; have := HBW.out; have := HTW.out; have := HL2.out; have := HZ4.out; have := HL11.out; have := HL12.out; have := HL13.out; have := HZ16.out; have := HL22.out; have := HL23.out; have := HL24.out; have := HZ26.out; have := HZ37.out; have := HL44.out; have := HL45.out; have := HL46.out; have := HL47.out; omega)).trans ((setOff 1 (.int .i64 y.first) (by have := HBT.out; have := HBW.out; have := HTW.out; have := HL2.out; have := HZ4.out; have := HL11.out; have := HL12.out; have := HL13.out; have := HZ16.out; have := HL22.out; have := HL23.out; have := HL24.out; have := HZ26.out; have := HZ37.out; have := HL44.out; have := HL45.out; have := HL46.out; have := HL47.out; omega)).trans ((setOff 0 (.int .u8 y.kind) (by have := HBT.out; have := HBW.out; have := HTW.out; have := HL2.out; have := HZ4.out; have := HL11.out; have := HL12.out; have := HL13.out; have := HZ16.out; have := HL22.out; have := HL23.out; have := HL24.out; have := HZ26.out; have := HZ37.out; have := HL44.out; have := HL45.out; have := HL46.out; have := HL47.out; omega)).trans H_x_41.out))))
  have H_pg_54 := Lib.hid (PgB.kept H_pg_42.out hC48.out (by intro k hk; have := HBT.out; have := HBW.out; have := HTW.out; have := HL2.out; have := HZ4.out; have := HL11.out; have := HL12.out; have := HL13.out; have := HZ16.out; have := HL22.out; have := HL23.out; have := HL24.out; have := HZ26.out; have := HZ37.out; have := HL44.out; have := HL45.out; have := HL46.out; have := HL47.out; have := HZ49.out; simp only [List.mem_cons, List.mem_singleton, List.not_mem_nil, or_false] at hk; omega))
  have HE55 := Lib.hid (HE43.out.after hC48.out (by intro k hk; have := HBT.out; have := HBW.out; have := HTW.out; have := HL2.out; have := HZ4.out; have := HL11.out; have := HL12.out; have := HL13.out; have := HZ16.out; have := HL22.out; have := HL23.out; have := HL24.out; have := HZ26.out; have := HZ37.out; have := HL44.out; have := HL45.out; have := HL46.out; have := HL47.out; have := HZ49.out; simp only [List.mem_cons, List.mem_singleton, List.not_mem_nil, or_false] at hk ⊢; omega))
  generalize ((((W35.setCell ⟨w.heap.size, 0, none⟩ (.int .u8 y.kind)).setCell ⟨w.heap.size, 1, none⟩ (.int .i64 y.first)).setCell ⟨w.heap.size, 2, none⟩ (.slice sa1 y.cells.length sc1)).setCell ⟨w.heap.size, 3, none⟩ (vs y.data)) = W56 at *
  have c_res_0 : W56.cell? ⟨w.heap.size, 0, none⟩ = some (.int .u8 y.kind) := cellAt H_res_51.out 0
  have c_res_1 : W56.cell? ⟨w.heap.size, 1, none⟩ = some (.int .i64 y.first) := cellAt H_res_51.out 1
  have c_res_2 : W56.cell? ⟨w.heap.size, 2, none⟩ = some (.slice sa1 y.cells.length sc1) := cellAt H_res_51.out 2
  have c_res_3 : W56.cell? ⟨w.heap.size, 3, none⟩ = some (vs y.data) := cellAt H_res_51.out 3
  exact bodyPost_ret (v := .tuple #[.agg #[.int .u8 y.kind, .int .i64 y.first, .slice sa1 y.cells.length sc1, vs y.data], .int .i64 z]) (by simp [results, Tryz.results138, go_sem, c_res_0, c_res_1, c_res_2, c_res_3]; try rfl) rfl (ChPost.mk (.slice sa1 y.cells.length sc1) rfl (crow_off HR1.out hC48.out (by intro k hk; simp only [List.mem_cons, List.not_mem_nil, or_false] at hk; rcases hk with rfl; exact HNR.out)) H_t_50.out HE55.out)

end Go.Proofs.YtobmnnihmbdfjaaGreat
