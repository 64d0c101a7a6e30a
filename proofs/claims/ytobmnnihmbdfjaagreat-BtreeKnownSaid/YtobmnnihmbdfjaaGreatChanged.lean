/- btree.changed where the root is a leaf. -/
import Derived.Test.YtobmnnihmbdfjaaGreatFree
set_option linter.all false
namespace Go.Proofs.YtobmnnihmbdfjaaGreat
open Go.RowKit

theorem PgB.belowFrom {B w w' pb tb mb lb L sv op base tx} (h : PgB B w pb tb mb lb L sv op base tx) (hc : Chg [] w w') : PgB B w' pb tb mb lb L sv op base tx := h.kept hc (by simp)
/-- What a leaf's change leaves: nothing was touched, and an error is told. -/
def ErrPost (z : Int) (w : World) (e : Ending) (w' : World) : Prop := e = .returned (.tuple #[.int .i64 0, .int .i64 z]) ∧ Below w.heap.size w w'

set_option maxRecDepth 100000 in
set_option maxHeartbeats 8000000 in
theorem changed_err {w pb tt mb lb L sv op base tx} (h : PgIn w pb tt mb lb L sv op base tx) (root : Int) (key : List UInt8) (x y : NodeM) (z : Int) (g : Nat) (cb : Array Value)
    (hlen : (tx.view base root).length ≤ 100000) (hrd : readN base tx 64 root [1, 2] = some x) (hk : x.kind = 1) (eg : ∀ args w, (callFunc g args).run Tryz.prog w = .ok (.enter g args) w)
    (hdo : ∀ W v C tb, Below w.heap.size w W → w.heap.size ≤ C → C ≤ W.heap.size → CRow W C v x.cells → Calls Tryz.prog g (#[ptr tb, nodeV x v] ++ cb) W (NodePost C v y z W)) (hz : z ≠ 0) :
    Calls Tryz.prog 69 #[ptr pb, .int .i64 root, vs key, .func (.func g) #[] cb] w (ErrPost z w) := by
  have HPG := Lib.hid h.inB
  have HRD := Lib.hid hrd
  have HDO := Lib.hid hdo
  have HVL := Lib.hid hlen
  have HK := Lib.hid hk
  clear h hrd hdo hlen hk
  have HE1 := Lib.hid (Chg.refl [tt, mb] w)
  go_enter Tryz.func69, Tryz.ntmps69
  go_wp2_with fail
  have hC2 : Hid (Chg [] w (w.alloc (.cells #[.func (.func g) #[] cb] 157))) := Lib.hid ((Chg.refl [] w).alloc (.cells #[.func (.func g) #[] cb] 157))
  have HZ3 := Lib.hid hC2.out.size
  have H_bd_4 : Hid ((w.alloc (.cells #[.func (.func g) #[] cb] 157)).heap[w.heap.size]? = some (.cells #[.func (.func g) #[] cb] 157)) := Lib.hid (heapNew (by simp [World.setCell]) (.cells #[.func (.func g) #[] cb] 157))
  have H_pg_5 := Lib.hid (PgB.kept HPG.out hC2.out (by simp))
  have HE6 := Lib.hid (HE1.out.after hC2.out (by simp))
  generalize (w.alloc (.cells #[.func (.func g) #[] cb] 157)) = W7 at *
  go_at_call 76; refine (write_in_range H_pg_5.out.pg 0 (.inl (by decide)) _).mono ?_; rintro e w' ⟨rfl, rfl⟩
  go_wp2_with fail
  go_at_call 66; refine (tbegin _ _).mono ?_; rintro e w' ⟨rfl, rfl⟩
  go_wp2_with fail
  have HL8 := Lib.hid (lt_of_block H_bd_4.out)
  have hC9 : Hid (Chg [] W7 ((W7.alloc (treeO pb 64)).alloc (.cells #[ptr W7.heap.size] 141))) := Lib.hid (((Chg.refl [] W7).alloc (treeO pb 64)).alloc (.cells #[ptr W7.heap.size] 141))
  have HZ10 := Lib.hid hC9.out.size
  have H_bd_11 : Hid (((W7.alloc (treeO pb 64)).alloc (.cells #[ptr W7.heap.size] 141)).heap[w.heap.size]? = some (.cells #[.func (.func g) #[] cb] 157)) := Lib.hid (heapOld (heapOld H_bd_4.out (treeO pb 64)) (.cells #[ptr W7.heap.size] 141))
  have H_t_12 : Hid (((W7.alloc (treeO pb 64)).alloc (.cells #[ptr W7.heap.size] 141)).heap[W7.heap.size]? = some (treeO pb 64)) := Lib.hid (heapOld (heapNew (by simp [World.setCell]) (treeO pb 64)) (.cells #[ptr W7.heap.size] 141))
  have H_bt_13 : Hid (((W7.alloc (treeO pb 64)).alloc (.cells #[ptr W7.heap.size] 141)).heap[W7.heap.size + 1]? = some (.cells #[ptr W7.heap.size] 141)) := Lib.hid (heapNew (by simp [World.setCell]) (.cells #[ptr W7.heap.size] 141))
  have H_pg_14 := Lib.hid (PgB.kept H_pg_5.out hC9.out (by simp))
  have HE15 := Lib.hid (HE6.out.after hC9.out (by simp))
  generalize ((W7.alloc (treeO pb 64)).alloc (.cells #[ptr W7.heap.size] 141)) = W16 at *
  have HL17 := Lib.hid (lt_of_block H_bd_11.out)
  have HL18 := Lib.hid (lt_of_block H_t_12.out)
  have HL19 := Lib.hid (lt_of_block H_bt_13.out)
  have HEC := Lib.hid (HE15.out)
  have HBC : Hid (Below w.heap.size w W16) := Lib.hid ((hC2.out.trans hC9.out).to_below (Nat.le_refl _) (by simp))
  go_at_call 138; refine (change_leaf H_pg_14.out (W7.heap.size) (by have := HZ3.out; have := HL8.out; have := HZ10.out; have := HL17.out; have := HL18.out; have := HL19.out; omega) 64 root 1 (by decide) (by decide) H_t_12.out key x y z 139 #[ptr (w.heap.size), ptr (W7.heap.size + 1)] HVL.out HRD.out HK.out (enters_of Tryz.func139 (by kernel_rfl) rfl) (fun W v hc hr => changed1 W16.heap.size g cb x y z v (W7.heap.size) (w.heap.size) (W7.heap.size + 1) W hr hc.size (hc.get H_bd_11.out (by have := HZ3.out; have := HL8.out; have := HZ10.out; have := HL17.out; have := HL18.out; have := HL19.out; simp only [List.mem_cons, List.mem_singleton, List.not_mem_nil, or_false, not_or, not_false_eq_true]; omega)) (by have := HZ3.out; have := HL8.out; have := HZ10.out; have := HL17.out; have := HL18.out; have := HL19.out; omega) (hc.get H_bt_13.out (by have := HZ3.out; have := HL8.out; have := HZ10.out; have := HL17.out; have := HL18.out; have := HL19.out; simp only [List.mem_cons, List.mem_singleton, List.not_mem_nil, or_false, not_or, not_false_eq_true]; omega)) (by have := HZ3.out; have := HL8.out; have := HZ10.out; have := HL17.out; have := HL18.out; have := HL19.out; omega) eg (fun V hb hr2 => HDO.out V v W16.heap.size (W7.heap.size) (HBC.out.trans ((hc.to_below (B := w.heap.size) (by have := HZ3.out; have := HL8.out; have := HZ10.out; have := HL17.out; have := HL18.out; have := HL19.out; omega) (by intro k hk; simp only [List.mem_singleton] at hk; have := HZ3.out; have := HL8.out; have := HZ10.out; have := HL17.out; have := HL18.out; have := HL19.out; omega)).trans (hb.mono (by have := hc.size; have := HZ3.out; have := HL8.out; have := HZ10.out; have := HL17.out; have := HL18.out; have := HL19.out; omega)))) (by have := HZ3.out; have := HL8.out; have := HZ10.out; have := HL17.out; have := HL18.out; have := HL19.out; omega) (by have := hb.size; have := hc.size; omega) hr2))).mono ?_; rintro e W20 ⟨v1, rfl, hr1, ht1, hc1⟩
  have HR1 := Lib.hid hr1
  clear hr1
  have hC21 := Lib.hid hc1
  have HZ22 := Lib.hid hC21.out.size
  have H_bd_23 := Lib.hid (hC21.out.get H_bd_11.out (by have := HZ3.out; have := HL8.out; have := HZ10.out; have := HL17.out; have := HL18.out; have := HL19.out; have := HZ22.out; simp only [List.mem_cons, List.mem_singleton, List.not_mem_nil, or_false, not_or, not_false_eq_true]; omega))
  have H_t_24 : Hid (W20.heap[W7.heap.size]? = some (treeO pb (64 - 1))) := Lib.hid ht1
  have H_bt_25 := Lib.hid (hC21.out.get H_bt_13.out (by have := HZ3.out; have := HL8.out; have := HZ10.out; have := HL17.out; have := HL18.out; have := HL19.out; have := HZ22.out; simp only [List.mem_cons, List.mem_singleton, List.not_mem_nil, or_false, not_or, not_false_eq_true]; omega))
  have H_pg_26 := Lib.hid (PgB.kept H_pg_14.out hC21.out (by intro k hk; have := HZ3.out; have := HL8.out; have := HZ10.out; have := HL17.out; have := HL18.out; have := HL19.out; have := HZ22.out; simp only [List.mem_cons, List.mem_singleton, List.not_mem_nil, or_false] at hk; omega))
  have HE27 := Lib.hid (HE15.out.after hC21.out (by intro k hk; have := HZ3.out; have := HL8.out; have := HZ10.out; have := HL17.out; have := HL18.out; have := HL19.out; have := HZ22.out; simp only [List.mem_cons, List.mem_singleton, List.not_mem_nil, or_false] at hk ⊢; omega))
  clear hc1 ht1
  obtain ⟨sa1, sc1, hv1⟩ := (rowCells HR1.out).slice
  subst hv1
  have hz1 : (z == 0) = false := by simpa using hz
  have hz2 : (z != 0) = true := by simpa using hz
  go_wp2_with fail
  have HL28 := Lib.hid (lt_of_block H_bd_23.out)
  have HL29 := Lib.hid (lt_of_block H_t_24.out)
  have HL30 := Lib.hid (lt_of_block H_bt_25.out)
  have hC31 : Hid (Chg [] W20 (W20.alloc (.cells #[.int .u8 y.kind, .int .i64 y.first, .slice sa1 y.cells.length sc1, vs y.data] 150))) := Lib.hid ((Chg.refl [] W20).alloc (.cells #[.int .u8 y.kind, .int .i64 y.first, .slice sa1 y.cells.length sc1, vs y.data] 150))
  have HZ32 := Lib.hid hC31.out.size
  have H_bd_33 : Hid ((W20.alloc (.cells #[.int .u8 y.kind, .int .i64 y.first, .slice sa1 y.cells.length sc1, vs y.data] 150)).heap[w.heap.size]? = some (.cells #[.func (.func g) #[] cb] 157)) := Lib.hid (heapOld H_bd_23.out (.cells #[.int .u8 y.kind, .int .i64 y.first, .slice sa1 y.cells.length sc1, vs y.data] 150))
  have H_t_34 : Hid ((W20.alloc (.cells #[.int .u8 y.kind, .int .i64 y.first, .slice sa1 y.cells.length sc1, vs y.data] 150)).heap[W7.heap.size]? = some (treeO pb (64 - 1))) := Lib.hid (heapOld H_t_24.out (.cells #[.int .u8 y.kind, .int .i64 y.first, .slice sa1 y.cells.length sc1, vs y.data] 150))
  have H_bt_35 : Hid ((W20.alloc (.cells #[.int .u8 y.kind, .int .i64 y.first, .slice sa1 y.cells.length sc1, vs y.data] 150)).heap[W7.heap.size + 1]? = some (.cells #[ptr W7.heap.size] 141)) := Lib.hid (heapOld H_bt_25.out (.cells #[.int .u8 y.kind, .int .i64 y.first, .slice sa1 y.cells.length sc1, vs y.data] 150))
  have H_y_36 : Hid ((W20.alloc (.cells #[.int .u8 y.kind, .int .i64 y.first, .slice sa1 y.cells.length sc1, vs y.data] 150)).heap[W20.heap.size]? = some (.cells #[.int .u8 y.kind, .int .i64 y.first, .slice sa1 y.cells.length sc1, vs y.data] 150)) := Lib.hid (heapNew (by simp [World.setCell]) (.cells #[.int .u8 y.kind, .int .i64 y.first, .slice sa1 y.cells.length sc1, vs y.data] 150))
  have H_pg_37 := Lib.hid (PgB.kept H_pg_26.out hC31.out (by simp))
  have HE38 := Lib.hid (HE27.out.after hC31.out (by simp))
  generalize (W20.alloc (.cells #[.int .u8 y.kind, .int .i64 y.first, .slice sa1 y.cells.length sc1, vs y.data] 150)) = W39 at *
  have HFIN : Hid (Below w.heap.size w W39) := Lib.hid (HBC.out.trans (((hC21.out.after hC31.out (by simp)).to_below (B := w.heap.size) (by have := HZ3.out; have := HL8.out; have := HZ10.out; have := HL17.out; have := HL18.out; have := HL19.out; have := HZ22.out; have := HL28.out; have := HL29.out; have := HL30.out; have := HZ32.out; omega) (by intro k hk; simp only [List.mem_singleton] at hk; have := HZ3.out; have := HL8.out; have := HZ10.out; have := HL17.out; have := HL18.out; have := HL19.out; have := HZ22.out; have := HL28.out; have := HL29.out; have := HL30.out; have := HZ32.out; omega))))
  go_ret2
  exact ⟨rfl, HFIN.out⟩

set_option maxRecDepth 100000 in
set_option maxHeartbeats 8000000 in
theorem changed_ok {w pb tt mb lb L sv op base tx} (h : PgIn w pb tt mb lb L sv op base tx) (root : Int) (key : List UInt8) (x y : NodeM) (z : Int) (g : Nat) (cb : Array Value)
    (hlen : (tx.view base root).length ≤ 100000) (hrd : readN base tx 64 root [1, 2] = some x) (hk : x.kind = 1) (eg : ∀ args w, (callFunc g args).run Tryz.prog w = .ok (.enter g args) w)
    (hdo : ∀ W v C tb, Below w.heap.size w W → w.heap.size ≤ C → C ≤ W.heap.size → CRow W C v x.cells → Calls Tryz.prog g (#[ptr tb, nodeV x v] ++ cb) W (NodePost C v y z W)) (hz : z = 0) (hym : mayN y = true) (hyk : y.kind = 1 ∨ y.kind = 2) (hyl : (bytesN y).length ≤ 512) (hys : Small y) (hyne : 0 < y.cells.length) (hr1' : 2 ≤ root) (hr2 : root ≤ tx.pages) :
    Calls Tryz.prog 69 #[ptr pb, .int .i64 root, vs key, .func (.func g) #[] cb] w fun e w' => e = .returned (.tuple #[.int .i64 root, .int .i64 0]) ∧ PgIn w' pb tt mb lb L sv op base (tx.put root (padN (bytesN y))) ∧ Chg [tt, mb] w w' := by
  have HPG := Lib.hid h.inB
  have HRD := Lib.hid hrd
  have HDO := Lib.hid hdo
  have HVL := Lib.hid hlen
  have HK := Lib.hid hk
  clear h hrd hdo hlen hk
  have HE1 := Lib.hid (Chg.refl [tt, mb] w)
  go_enter Tryz.func69, Tryz.ntmps69
  go_wp2_with fail
  have hC2 : Hid (Chg [] w (w.alloc (.cells #[.func (.func g) #[] cb] 157))) := Lib.hid ((Chg.refl [] w).alloc (.cells #[.func (.func g) #[] cb] 157))
  have HZ3 := Lib.hid hC2.out.size
  have H_bd_4 : Hid ((w.alloc (.cells #[.func (.func g) #[] cb] 157)).heap[w.heap.size]? = some (.cells #[.func (.func g) #[] cb] 157)) := Lib.hid (heapNew (by simp [World.setCell]) (.cells #[.func (.func g) #[] cb] 157))
  have H_pg_5 := Lib.hid (PgB.kept HPG.out hC2.out (by simp))
  have HE6 := Lib.hid (HE1.out.after hC2.out (by simp))
  generalize (w.alloc (.cells #[.func (.func g) #[] cb] 157)) = W7 at *
  go_at_call 76; refine (write_in_range H_pg_5.out.pg 0 (.inl (by decide)) _).mono ?_; rintro e w' ⟨rfl, rfl⟩
  go_wp2_with fail
  go_at_call 66; refine (tbegin _ _).mono ?_; rintro e w' ⟨rfl, rfl⟩
  go_wp2_with fail
  have HL8 := Lib.hid (lt_of_block H_bd_4.out)
  have hC9 : Hid (Chg [] W7 ((W7.alloc (treeO pb 64)).alloc (.cells #[ptr W7.heap.size] 141))) := Lib.hid (((Chg.refl [] W7).alloc (treeO pb 64)).alloc (.cells #[ptr W7.heap.size] 141))
  have HZ10 := Lib.hid hC9.out.size
  have H_bd_11 : Hid (((W7.alloc (treeO pb 64)).alloc (.cells #[ptr W7.heap.size] 141)).heap[w.heap.size]? = some (.cells #[.func (.func g) #[] cb] 157)) := Lib.hid (heapOld (heapOld H_bd_4.out (treeO pb 64)) (.cells #[ptr W7.heap.size] 141))
  have H_t_12 : Hid (((W7.alloc (treeO pb 64)).alloc (.cells #[ptr W7.heap.size] 141)).heap[W7.heap.size]? = some (treeO pb 64)) := Lib.hid (heapOld (heapNew (by simp [World.setCell]) (treeO pb 64)) (.cells #[ptr W7.heap.size] 141))
  have H_bt_13 : Hid (((W7.alloc (treeO pb 64)).alloc (.cells #[ptr W7.heap.size] 141)).heap[W7.heap.size + 1]? = some (.cells #[ptr W7.heap.size] 141)) := Lib.hid (heapNew (by simp [World.setCell]) (.cells #[ptr W7.heap.size] 141))
  have H_pg_14 := Lib.hid (PgB.kept H_pg_5.out hC9.out (by simp))
  have HE15 := Lib.hid (HE6.out.after hC9.out (by simp))
  generalize ((W7.alloc (treeO pb 64)).alloc (.cells #[ptr W7.heap.size] 141)) = W16 at *
  have HL17 := Lib.hid (lt_of_block H_bd_11.out)
  have HL18 := Lib.hid (lt_of_block H_t_12.out)
  have HL19 := Lib.hid (lt_of_block H_bt_13.out)
  have HEC := Lib.hid (HE15.out)
  have HBC : Hid (Below w.heap.size w W16) := Lib.hid ((hC2.out.trans hC9.out).to_below (Nat.le_refl _) (by simp))
  go_at_call 138; refine (change_leaf H_pg_14.out (W7.heap.size) (by have := HZ3.out; have := HL8.out; have := HZ10.out; have := HL17.out; have := HL18.out; have := HL19.out; omega) 64 root 1 (by decide) (by decide) H_t_12.out key x y z 139 #[ptr (w.heap.size), ptr (W7.heap.size + 1)] HVL.out HRD.out HK.out (enters_of Tryz.func139 (by kernel_rfl) rfl) (fun W v hc hr => changed1 W16.heap.size g cb x y z v (W7.heap.size) (w.heap.size) (W7.heap.size + 1) W hr hc.size (hc.get H_bd_11.out (by have := HZ3.out; have := HL8.out; have := HZ10.out; have := HL17.out; have := HL18.out; have := HL19.out; simp only [List.mem_cons, List.mem_singleton, List.not_mem_nil, or_false, not_or, not_false_eq_true]; omega)) (by have := HZ3.out; have := HL8.out; have := HZ10.out; have := HL17.out; have := HL18.out; have := HL19.out; omega) (hc.get H_bt_13.out (by have := HZ3.out; have := HL8.out; have := HZ10.out; have := HL17.out; have := HL18.out; have := HL19.out; simp only [List.mem_cons, List.mem_singleton, List.not_mem_nil, or_false, not_or, not_false_eq_true]; omega)) (by have := HZ3.out; have := HL8.out; have := HZ10.out; have := HL17.out; have := HL18.out; have := HL19.out; omega) eg (fun V hb hr2 => HDO.out V v W16.heap.size (W7.heap.size) (HBC.out.trans ((hc.to_below (B := w.heap.size) (by have := HZ3.out; have := HL8.out; have := HZ10.out; have := HL17.out; have := HL18.out; have := HL19.out; omega) (by intro k hk; simp only [List.mem_singleton] at hk; have := HZ3.out; have := HL8.out; have := HZ10.out; have := HL17.out; have := HL18.out; have := HL19.out; omega)).trans (hb.mono (by have := hc.size; have := HZ3.out; have := HL8.out; have := HZ10.out; have := HL17.out; have := HL18.out; have := HL19.out; omega)))) (by have := HZ3.out; have := HL8.out; have := HZ10.out; have := HL17.out; have := HL18.out; have := HL19.out; omega) (by have := hb.size; have := hc.size; omega) hr2))).mono ?_; rintro e W20 ⟨v1, rfl, hr1, ht1, hc1⟩
  have HR1 := Lib.hid hr1
  clear hr1
  have hC21 := Lib.hid hc1
  have HZ22 := Lib.hid hC21.out.size
  have H_bd_23 := Lib.hid (hC21.out.get H_bd_11.out (by have := HZ3.out; have := HL8.out; have := HZ10.out; have := HL17.out; have := HL18.out; have := HL19.out; have := HZ22.out; simp only [List.mem_cons, List.mem_singleton, List.not_mem_nil, or_false, not_or, not_false_eq_true]; omega))
  have H_t_24 : Hid (W20.heap[W7.heap.size]? = some (treeO pb (64 - 1))) := Lib.hid ht1
  have H_bt_25 := Lib.hid (hC21.out.get H_bt_13.out (by have := HZ3.out; have := HL8.out; have := HZ10.out; have := HL17.out; have := HL18.out; have := HL19.out; have := HZ22.out; simp only [List.mem_cons, List.mem_singleton, List.not_mem_nil, or_false, not_or, not_false_eq_true]; omega))
  have H_pg_26 := Lib.hid (PgB.kept H_pg_14.out hC21.out (by intro k hk; have := HZ3.out; have := HL8.out; have := HZ10.out; have := HL17.out; have := HL18.out; have := HL19.out; have := HZ22.out; simp only [List.mem_cons, List.mem_singleton, List.not_mem_nil, or_false] at hk; omega))
  have HE27 := Lib.hid (HE15.out.after hC21.out (by intro k hk; have := HZ3.out; have := HL8.out; have := HZ10.out; have := HL17.out; have := HL18.out; have := HL19.out; have := HZ22.out; simp only [List.mem_cons, List.mem_singleton, List.not_mem_nil, or_false] at hk ⊢; omega))
  clear hc1 ht1
  obtain ⟨sa1, sc1, hv1⟩ := (rowCells HR1.out).slice
  subst hv1
  subst hz
  have c_bt_0 : W20.cell? ⟨W7.heap.size + 1, 0, none⟩ = some (ptr W7.heap.size) := cellAt H_bt_25.out 0
  have o_bt_0_1 : (W20.alloc (.cells #[.int .u8 y.kind, .int .i64 y.first, .slice sa1 y.cells.length sc1, vs y.data] 150)).cell? ⟨W7.heap.size + 1, 0, none⟩ = some (ptr W7.heap.size) := cellAt (heapOld H_bt_25.out (.cells #[.int .u8 y.kind, .int .i64 y.first, .slice sa1 y.cells.length sc1, vs y.data] 150)) 0
  go_wp2_with fail
  clear c_bt_0 o_bt_0_1
  have HL28 := Lib.hid (lt_of_block H_bd_23.out)
  have HL29 := Lib.hid (lt_of_block H_t_24.out)
  have HL30 := Lib.hid (lt_of_block H_bt_25.out)
  have hC31 : Hid (Chg [] W20 (W20.alloc (.cells #[.int .u8 y.kind, .int .i64 y.first, .slice sa1 y.cells.length sc1, vs y.data] 150))) := Lib.hid ((Chg.refl [] W20).alloc (.cells #[.int .u8 y.kind, .int .i64 y.first, .slice sa1 y.cells.length sc1, vs y.data] 150))
  have HZ32 := Lib.hid hC31.out.size
  have H_bd_33 : Hid ((W20.alloc (.cells #[.int .u8 y.kind, .int .i64 y.first, .slice sa1 y.cells.length sc1, vs y.data] 150)).heap[w.heap.size]? = some (.cells #[.func (.func g) #[] cb] 157)) := Lib.hid (heapOld H_bd_23.out (.cells #[.int .u8 y.kind, .int .i64 y.first, .slice sa1 y.cells.length sc1, vs y.data] 150))
  have H_t_34 : Hid ((W20.alloc (.cells #[.int .u8 y.kind, .int .i64 y.first, .slice sa1 y.cells.length sc1, vs y.data] 150)).heap[W7.heap.size]? = some (treeO pb (64 - 1))) := Lib.hid (heapOld H_t_24.out (.cells #[.int .u8 y.kind, .int .i64 y.first, .slice sa1 y.cells.length sc1, vs y.data] 150))
  have H_bt_35 : Hid ((W20.alloc (.cells #[.int .u8 y.kind, .int .i64 y.first, .slice sa1 y.cells.length sc1, vs y.data] 150)).heap[W7.heap.size + 1]? = some (.cells #[ptr W7.heap.size] 141)) := Lib.hid (heapOld H_bt_25.out (.cells #[.int .u8 y.kind, .int .i64 y.first, .slice sa1 y.cells.length sc1, vs y.data] 150))
  have H_y_36 : Hid ((W20.alloc (.cells #[.int .u8 y.kind, .int .i64 y.first, .slice sa1 y.cells.length sc1, vs y.data] 150)).heap[W20.heap.size]? = some (.cells #[.int .u8 y.kind, .int .i64 y.first, .slice sa1 y.cells.length sc1, vs y.data] 150)) := Lib.hid (heapNew (by simp [World.setCell]) (.cells #[.int .u8 y.kind, .int .i64 y.first, .slice sa1 y.cells.length sc1, vs y.data] 150))
  have H_pg_37 := Lib.hid (PgB.kept H_pg_26.out hC31.out (by simp))
  have H_row_38 := Lib.hid (ownsRow_chg HR1.out hC31.out (by simp))
  have HE39 := Lib.hid (HE27.out.after hC31.out (by simp))
  generalize (W20.alloc (.cells #[.int .u8 y.kind, .int .i64 y.first, .slice sa1 y.cells.length sc1, vs y.data] 150)) = W40 at *
  have HYM := Lib.hid hym
  have HYL := Lib.hid hyl
  have HYS := Lib.hid hys
  clear hym hyl hys
  go_at_call 140; refine (root_write H_pg_37.out (W7.heap.size) (by have := HZ3.out; have := HL8.out; have := HZ10.out; have := HL17.out; have := HL18.out; have := HL19.out; have := HZ22.out; have := HL28.out; have := HL29.out; have := HL30.out; have := HZ32.out; omega) (64 - 1) root H_t_34.out y _ (rowCells H_row_38.out) HYM.out hyk HYL.out HYS.out hyne (by omega) hr2).mono ?_; rintro e W41 ⟨rfl, hP, hT, hC⟩
  have HPF := Lib.hid hP
  have HCF := Lib.hid hC
  clear hP hT hC
  go_wp2_with fail
  go_ret2
  exact ⟨rfl, HPF.out.pg, HE39.out.trans HCF.out⟩

set_option maxRecDepth 100000 in
set_option maxHeartbeats 8000000 in
theorem changed_empty {w pb tt mb lb L sv op base tx} (h : PgIn w pb tt mb lb L sv op base tx) (root : Int) (key : List UInt8) (x y : NodeM) (z : Int) (g : Nat) (cb : Array Value)
    (hlen : (tx.view base root).length ≤ 100000) (hrd : readN base tx 64 root [1, 2] = some x) (hk : x.kind = 1) (eg : ∀ args w, (callFunc g args).run Tryz.prog w = .ok (.enter g args) w)
    (hdo : ∀ W v C tb, Below w.heap.size w W → w.heap.size ≤ C → C ≤ W.heap.size → CRow W C v x.cells → Calls Tryz.prog g (#[ptr tb, nodeV x v] ++ cb) W (NodePost C v y z W)) (hz : z = 0) (hyk : y.kind = 1 ∨ y.kind = 2) (hys : Small y) (hye : y.cells = []) (hd : Hdr) (hvw : tx.view base 1 = putH hd) (hmb : mayB hd = true) (hu : U64 hd.commits) (hr1' : 2 ≤ root) (hr2 : root ≤ tx.pages) :
    Calls Tryz.prog 69 #[ptr pb, .int .i64 root, vs key, .func (.func g) #[] cb] w fun e w' => e = .returned (.tuple #[.int .i64 y.first, .int .i64 0]) ∧ PgIn w' pb tt mb lb L sv op base (freeTx tx hd root) ∧ Chg [tt, mb] w w' := by
  have HPG := Lib.hid h.inB
  have HRD := Lib.hid hrd
  have HDO := Lib.hid hdo
  have HVL := Lib.hid hlen
  have HK := Lib.hid hk
  clear h hrd hdo hlen hk
  have HE1 := Lib.hid (Chg.refl [tt, mb] w)
  go_enter Tryz.func69, Tryz.ntmps69
  go_wp2_with fail
  have hC2 : Hid (Chg [] w (w.alloc (.cells #[.func (.func g) #[] cb] 157))) := Lib.hid ((Chg.refl [] w).alloc (.cells #[.func (.func g) #[] cb] 157))
  have HZ3 := Lib.hid hC2.out.size
  have H_bd_4 : Hid ((w.alloc (.cells #[.func (.func g) #[] cb] 157)).heap[w.heap.size]? = some (.cells #[.func (.func g) #[] cb] 157)) := Lib.hid (heapNew (by simp [World.setCell]) (.cells #[.func (.func g) #[] cb] 157))
  have H_pg_5 := Lib.hid (PgB.kept HPG.out hC2.out (by simp))
  have HE6 := Lib.hid (HE1.out.after hC2.out (by simp))
  generalize (w.alloc (.cells #[.func (.func g) #[] cb] 157)) = W7 at *
  go_at_call 76; refine (write_in_range H_pg_5.out.pg 0 (.inl (by decide)) _).mono ?_; rintro e w' ⟨rfl, rfl⟩
  go_wp2_with fail
  go_at_call 66; refine (tbegin _ _).mono ?_; rintro e w' ⟨rfl, rfl⟩
  go_wp2_with fail
  have HL8 := Lib.hid (lt_of_block H_bd_4.out)
  have hC9 : Hid (Chg [] W7 ((W7.alloc (treeO pb 64)).alloc (.cells #[ptr W7.heap.size] 141))) := Lib.hid (((Chg.refl [] W7).alloc (treeO pb 64)).alloc (.cells #[ptr W7.heap.size] 141))
  have HZ10 := Lib.hid hC9.out.size
  have H_bd_11 : Hid (((W7.alloc (treeO pb 64)).alloc (.cells #[ptr W7.heap.size] 141)).heap[w.heap.size]? = some (.cells #[.func (.func g) #[] cb] 157)) := Lib.hid (heapOld (heapOld H_bd_4.out (treeO pb 64)) (.cells #[ptr W7.heap.size] 141))
  have H_t_12 : Hid (((W7.alloc (treeO pb 64)).alloc (.cells #[ptr W7.heap.size] 141)).heap[W7.heap.size]? = some (treeO pb 64)) := Lib.hid (heapOld (heapNew (by simp [World.setCell]) (treeO pb 64)) (.cells #[ptr W7.heap.size] 141))
  have H_bt_13 : Hid (((W7.alloc (treeO pb 64)).alloc (.cells #[ptr W7.heap.size] 141)).heap[W7.heap.size + 1]? = some (.cells #[ptr W7.heap.size] 141)) := Lib.hid (heapNew (by simp [World.setCell]) (.cells #[ptr W7.heap.size] 141))
  have H_pg_14 := Lib.hid (PgB.kept H_pg_5.out hC9.out (by simp))
  have HE15 := Lib.hid (HE6.out.after hC9.out (by simp))
  generalize ((W7.alloc (treeO pb 64)).alloc (.cells #[ptr W7.heap.size] 141)) = W16 at *
  have HL17 := Lib.hid (lt_of_block H_bd_11.out)
  have HL18 := Lib.hid (lt_of_block H_t_12.out)
  have HL19 := Lib.hid (lt_of_block H_bt_13.out)
  have HEC := Lib.hid (HE15.out)
  have HBC : Hid (Below w.heap.size w W16) := Lib.hid ((hC2.out.trans hC9.out).to_below (Nat.le_refl _) (by simp))
  go_at_call 138; refine (change_leaf H_pg_14.out (W7.heap.size) (by have := HZ3.out; have := HL8.out; have := HZ10.out; have := HL17.out; have := HL18.out; have := HL19.out; omega) 64 root 1 (by decide) (by decide) H_t_12.out key x y z 139 #[ptr (w.heap.size), ptr (W7.heap.size + 1)] HVL.out HRD.out HK.out (enters_of Tryz.func139 (by kernel_rfl) rfl) (fun W v hc hr => changed1 W16.heap.size g cb x y z v (W7.heap.size) (w.heap.size) (W7.heap.size + 1) W hr hc.size (hc.get H_bd_11.out (by have := HZ3.out; have := HL8.out; have := HZ10.out; have := HL17.out; have := HL18.out; have := HL19.out; simp only [List.mem_cons, List.mem_singleton, List.not_mem_nil, or_false, not_or, not_false_eq_true]; omega)) (by have := HZ3.out; have := HL8.out; have := HZ10.out; have := HL17.out; have := HL18.out; have := HL19.out; omega) (hc.get H_bt_13.out (by have := HZ3.out; have := HL8.out; have := HZ10.out; have := HL17.out; have := HL18.out; have := HL19.out; simp only [List.mem_cons, List.mem_singleton, List.not_mem_nil, or_false, not_or, not_false_eq_true]; omega)) (by have := HZ3.out; have := HL8.out; have := HZ10.out; have := HL17.out; have := HL18.out; have := HL19.out; omega) eg (fun V hb hr2 => HDO.out V v W16.heap.size (W7.heap.size) (HBC.out.trans ((hc.to_below (B := w.heap.size) (by have := HZ3.out; have := HL8.out; have := HZ10.out; have := HL17.out; have := HL18.out; have := HL19.out; omega) (by intro k hk; simp only [List.mem_singleton] at hk; have := HZ3.out; have := HL8.out; have := HZ10.out; have := HL17.out; have := HL18.out; have := HL19.out; omega)).trans (hb.mono (by have := hc.size; have := HZ3.out; have := HL8.out; have := HZ10.out; have := HL17.out; have := HL18.out; have := HL19.out; omega)))) (by have := HZ3.out; have := HL8.out; have := HZ10.out; have := HL17.out; have := HL18.out; have := HL19.out; omega) (by have := hb.size; have := hc.size; omega) hr2))).mono ?_; rintro e W20 ⟨v1, rfl, hr1, ht1, hc1⟩
  have HR1 := Lib.hid hr1
  clear hr1
  have hC21 := Lib.hid hc1
  have HZ22 := Lib.hid hC21.out.size
  have H_bd_23 := Lib.hid (hC21.out.get H_bd_11.out (by have := HZ3.out; have := HL8.out; have := HZ10.out; have := HL17.out; have := HL18.out; have := HL19.out; have := HZ22.out; simp only [List.mem_cons, List.mem_singleton, List.not_mem_nil, or_false, not_or, not_false_eq_true]; omega))
  have H_t_24 : Hid (W20.heap[W7.heap.size]? = some (treeO pb (64 - 1))) := Lib.hid ht1
  have H_bt_25 := Lib.hid (hC21.out.get H_bt_13.out (by have := HZ3.out; have := HL8.out; have := HZ10.out; have := HL17.out; have := HL18.out; have := HL19.out; have := HZ22.out; simp only [List.mem_cons, List.mem_singleton, List.not_mem_nil, or_false, not_or, not_false_eq_true]; omega))
  have H_pg_26 := Lib.hid (PgB.kept H_pg_14.out hC21.out (by intro k hk; have := HZ3.out; have := HL8.out; have := HZ10.out; have := HL17.out; have := HL18.out; have := HL19.out; have := HZ22.out; simp only [List.mem_cons, List.mem_singleton, List.not_mem_nil, or_false] at hk; omega))
  have HE27 := Lib.hid (HE15.out.after hC21.out (by intro k hk; have := HZ3.out; have := HL8.out; have := HZ10.out; have := HL17.out; have := HL18.out; have := HL19.out; have := HZ22.out; simp only [List.mem_cons, List.mem_singleton, List.not_mem_nil, or_false] at hk ⊢; omega))
  clear hc1 ht1
  obtain ⟨sa1, sc1, hv1⟩ := (rowCells HR1.out).slice
  subst hv1
  subst hz
  have HYE := Lib.hid hye
  have HVW := Lib.hid hvw
  have HMB := Lib.hid hmb
  have HU := Lib.hid hu
  clear hye hvw hmb hu
  have c_bt_0 : W20.cell? ⟨W7.heap.size + 1, 0, none⟩ = some (ptr W7.heap.size) := cellAt H_bt_25.out 0
  have o_bt_0_1 : (W20.alloc (.cells #[.int .u8 y.kind, .int .i64 y.first, .slice sa1 y.cells.length sc1, vs y.data] 150)).cell? ⟨W7.heap.size + 1, 0, none⟩ = some (ptr W7.heap.size) := cellAt (heapOld H_bt_25.out (.cells #[.int .u8 y.kind, .int .i64 y.first, .slice sa1 y.cells.length sc1, vs y.data] 150)) 0
  go_wp2_with fail
  clear c_bt_0 o_bt_0_1
  have HL28 := Lib.hid (lt_of_block H_bd_23.out)
  have HL29 := Lib.hid (lt_of_block H_t_24.out)
  have HL30 := Lib.hid (lt_of_block H_bt_25.out)
  have hC31 : Hid (Chg [] W20 (W20.alloc (.cells #[.int .u8 y.kind, .int .i64 y.first, .slice sa1 y.cells.length sc1, vs y.data] 150))) := Lib.hid ((Chg.refl [] W20).alloc (.cells #[.int .u8 y.kind, .int .i64 y.first, .slice sa1 y.cells.length sc1, vs y.data] 150))
  have HZ32 := Lib.hid hC31.out.size
  have H_bd_33 : Hid ((W20.alloc (.cells #[.int .u8 y.kind, .int .i64 y.first, .slice sa1 y.cells.length sc1, vs y.data] 150)).heap[w.heap.size]? = some (.cells #[.func (.func g) #[] cb] 157)) := Lib.hid (heapOld H_bd_23.out (.cells #[.int .u8 y.kind, .int .i64 y.first, .slice sa1 y.cells.length sc1, vs y.data] 150))
  have H_t_34 : Hid ((W20.alloc (.cells #[.int .u8 y.kind, .int .i64 y.first, .slice sa1 y.cells.length sc1, vs y.data] 150)).heap[W7.heap.size]? = some (treeO pb (64 - 1))) := Lib.hid (heapOld H_t_24.out (.cells #[.int .u8 y.kind, .int .i64 y.first, .slice sa1 y.cells.length sc1, vs y.data] 150))
  have H_bt_35 : Hid ((W20.alloc (.cells #[.int .u8 y.kind, .int .i64 y.first, .slice sa1 y.cells.length sc1, vs y.data] 150)).heap[W7.heap.size + 1]? = some (.cells #[ptr W7.heap.size] 141)) := Lib.hid (heapOld H_bt_25.out (.cells #[.int .u8 y.kind, .int .i64 y.first, .slice sa1 y.cells.length sc1, vs y.data] 150))
  have H_y_36 : Hid ((W20.alloc (.cells #[.int .u8 y.kind, .int .i64 y.first, .slice sa1 y.cells.length sc1, vs y.data] 150)).heap[W20.heap.size]? = some (.cells #[.int .u8 y.kind, .int .i64 y.first, .slice sa1 y.cells.length sc1, vs y.data] 150)) := Lib.hid (heapNew (by simp [World.setCell]) (.cells #[.int .u8 y.kind, .int .i64 y.first, .slice sa1 y.cells.length sc1, vs y.data] 150))
  have H_pg_37 := Lib.hid (PgB.kept H_pg_26.out hC31.out (by simp))
  have H_row_38 := Lib.hid (ownsRow_chg HR1.out hC31.out (by simp))
  have HE39 := Lib.hid (HE27.out.after hC31.out (by simp))
  generalize (W20.alloc (.cells #[.int .u8 y.kind, .int .i64 y.first, .slice sa1 y.cells.length sc1, vs y.data] 150)) = W40 at *
  go_at_call 140; refine (root_empty H_pg_37.out (W7.heap.size) (by have := HZ3.out; have := HL8.out; have := HZ10.out; have := HL17.out; have := HL18.out; have := HL19.out; have := HZ22.out; have := HL28.out; have := HL29.out; have := HL30.out; have := HZ32.out; omega) (64 - 1) root H_t_34.out y _ (rowCells H_row_38.out) hyk hys HYE.out hd HVW.out HMB.out HU.out hr1' hr2).mono ?_; rintro e W41 ⟨rfl, hP, hT, hC⟩
  have HPF := Lib.hid hP
  have HCF := Lib.hid hC
  clear hP hT hC
  go_wp2_with fail
  go_ret2
  exact ⟨rfl, HPF.out.pg, HE39.out.trans HCF.out⟩

end Go.Proofs.YtobmnnihmbdfjaaGreat
