/- A tree's pages: write, begin, size; cells of short texts. -/
import Derived.Test.YtobmnnihmbdfjaaGreatTree1
set_option linter.all false
namespace Go.Proofs.YtobmnnihmbdfjaaGreat
open Go.RowKit

theorem tbegin (pb : Nat) (w : World) : Calls Tryz.prog 66 #[ptr pb] w fun e w' => e = .returned (ptr w.heap.size) ∧ w' = w.alloc (treeO pb 64) := by
  go_enter Tryz.func66, Tryz.ntmps66
  go_wp2
  go_ret
  exact ⟨rfl, rfl⟩

set_option maxRecDepth 100000 in
set_option maxHeartbeats 4000000 in
/-- A page that may be is written. -/
theorem twrite {B w pb tt mb lb L sv op base tx} (h : PgB B w pb tt mb lb L sv op base tx) (tb : Nat) (hB : B ≤ tb) (left n : Int) (ht : w.heap[tb]? = some (treeO pb left)) (x : NodeM) (v : Value) (hx : CellsAt w v x.cells) (hm : mayN x = true) (hl : (bytesN x).length ≤ 512) (hs : Small x) (hp1 : 1 ≤ n) (hp2 : n ≤ tx.pages) :
    Calls Tryz.prog 68 #[ptr tb, .int .i64 n, nodeV x v] w fun e w' => e = .returned (.int .i64 0) ∧ PgB B w' pb tt mb lb L sv op base (tx.put n (padN (bytesN x))) ∧ Chg [tt, mb] w w' := by
  have HPG := Lib.hid h
  have HT0 := Lib.hid ht
  have HBT := Lib.hid hB
  have HBW := Lib.hid h.le
  have HX := Lib.hid hx
  have HM := Lib.hid hm
  have HL := Lib.hid hl
  have HSM := Lib.hid hs
  have HP1 := Lib.hid hp1
  have HP2 := Lib.hid hp2
  clear h ht hB hx hm hl hs hp1 hp2
  obtain ⟨sa, scap, hv⟩ := HX.out.slice
  subst hv
  have HE1 := Lib.hid (Chg.refl [tt, mb] w)
  go_enter Tryz.func68, Tryz.ntmps68
  go_wp2_with fail
  have HL2 := Lib.hid (lt_of_block HT0.out)
  have hC3 : Hid (Chg [] w (w.alloc (.cells #[.int .u8 x.kind, .int .i64 x.first, .slice sa x.cells.length scap, vs x.data] 150))) := Lib.hid ((Chg.refl [] w).alloc (.cells #[.int .u8 x.kind, .int .i64 x.first, .slice sa x.cells.length scap, vs x.data] 150))
  have HZ4 := Lib.hid hC3.out.size
  have H_t_5 : Hid ((w.alloc (.cells #[.int .u8 x.kind, .int .i64 x.first, .slice sa x.cells.length scap, vs x.data] 150)).heap[tb]? = some (.cells #[ptr pb, .int .i64 left] 213)) := Lib.hid (heapOld HT0.out (.cells #[.int .u8 x.kind, .int .i64 x.first, .slice sa x.cells.length scap, vs x.data] 150))
  have H_x_6 : Hid ((w.alloc (.cells #[.int .u8 x.kind, .int .i64 x.first, .slice sa x.cells.length scap, vs x.data] 150)).heap[w.heap.size]? = some (.cells #[.int .u8 x.kind, .int .i64 x.first, .slice sa x.cells.length scap, vs x.data] 150)) := Lib.hid (heapNew (by simp [World.setCell]) (.cells #[.int .u8 x.kind, .int .i64 x.first, .slice sa x.cells.length scap, vs x.data] 150))
  have H_pg_7 := Lib.hid (PgB.kept HPG.out hC3.out (by simp))
  have HE8 := Lib.hid (HE1.out.after hC3.out (by simp))
  generalize (w.alloc (.cells #[.int .u8 x.kind, .int .i64 x.first, .slice sa x.cells.length scap, vs x.data] 150)) = W9 at *
  have hput : putN x = (padN (bytesN x), 0) := by rw [putN, HM.out, if_neg (by decide), if_neg (by have := HL.out; omega)]
  have HPUT := Lib.hid hput
  clear hput
  have HXB : Hid (CellsAt W9 (.slice sa x.cells.length scap) x.cells) := Lib.hid (HX.out.below (hC3.out.to_below (Nat.le_refl _) (by simp)))
  go_at_call 124; refine (nput_any x _ _ HXB.out HSM.out).mono ?_; rintro e W10 ⟨rfl, hb⟩
  have hC11 := Lib.hid (Chg.of_below hb [])
  have HZ12 := Lib.hid hC11.out.size
  have H_t_13 := Lib.hid (hC11.out.get H_t_5.out (by simp))
  have H_x_14 := Lib.hid (hC11.out.get H_x_6.out (by simp))
  have H_pg_15 := Lib.hid (PgB.kept H_pg_7.out hC11.out (by simp))
  have HE16 := Lib.hid (HE8.out.after hC11.out (by simp))
  clear hb
  rw [HPUT.out]
  simp only
  have c_t_0 : W10.cell? ⟨tb, 0, none⟩ = some (ptr pb) := cellAt H_t_13.out 0
  go_wp2_with fail
  clear c_t_0
  refine (write_in H_pg_15.out.pg n HP1.out HP2.out _ (by show (padN (bytesN x)).toArray.size = 512; simpa using padN_length _ HL.out)).mono ?_
  rintro e W17 ⟨rfl, hP, hC⟩
  have HP := Lib.hid hP
  have HC := Lib.hid hC
  clear hP hC
  have HEF := Lib.hid (HE16.out.after HC.out (by intro k hk; simp only [List.mem_singleton] at hk; exact .inl (by simp [hk])))
  have HPF := Lib.hid (H_pg_15.out.then HP.out HC.out.size)
  go_wp2_with fail
  go_ret
  exact ⟨rfl, HPF.out, HEF.out⟩


/-- A cell whose text stands beside its key. -/
def Short (c : CellM) : Prop := c.page = 0 ∧ c.size = c.loc.length ∧ c.loc.length ≤ 100

set_option maxRecDepth 100000 in
set_option maxHeartbeats 4000000 in
theorem ttext_short (c : CellM) (hc : Short c) (tb : Nat) (w : World) : Calls Tryz.prog 143 #[ptr tb, cellV c] w fun e w' => e = .returned (.tuple #[vs c.loc, .int .i64 0]) ∧ Below w.heap.size w w' := by
  obtain ⟨key, size, loc, page⟩ := c
  obtain ⟨hp, hs, hl⟩ := hc
  simp only at hp hs hl
  subst hp hs
  have hconv : ∀ W : World, (convert 9 92 (vs loc)).run Tryz.prog W = .ok (.slice (some ⟨W.heap.size, 0, none⟩) loc.length (grownCap W loc.length 0 5)) (Lib.bytesWorld W 5 ⟨loc.toArray⟩) := by
    intro W
    have := Lib.run_convert_string_bytes (P := Tryz.prog) W 9 92 5 ⟨loc.toArray⟩ Tryz.underlying9 Tryz.underlying92 Tryz.underlying5
    simpa [ByteArray.size] using this
  have HE1 := Lib.hid (Chg.refl [] w)
  have HCV := Lib.hid hconv
  clear hconv
  go_enter Tryz.func143, Tryz.ntmps143
  go_upto_region 1 with fail
  have hC2 : Hid (Chg [] w (w.alloc (.cells #[vs key, .int .i64 loc.length, vs loc, .int .i64 0] 144))) := Lib.hid ((Chg.refl [] w).alloc (.cells #[vs key, .int .i64 loc.length, vs loc, .int .i64 0] 144))
  have H_c_3 : Hid ((w.alloc (.cells #[vs key, .int .i64 loc.length, vs loc, .int .i64 0] 144)).heap[w.heap.size]? = some (.cells #[vs key, .int .i64 loc.length, vs loc, .int .i64 0] 144)) := Lib.hid (heapNew (by simp [World.setCell]) (.cells #[vs key, .int .i64 loc.length, vs loc, .int .i64 0] 144))
  have HE4 := Lib.hid (HE1.out.after hC2.out (by simp))
  generalize (w.alloc (.cells #[vs key, .int .i64 loc.length, vs loc, .int .i64 0] 144)) = W5 at *
  have hconv := HCV.out W5
  have c_c_2 : W5.cell? ⟨w.heap.size, 2, none⟩ = some (vs loc) := cellAt H_c_3.out 2
  go_upto_region 2 with fail
  clear c_c_2
  clear hconv
  have hcell : ∀ j u, loc[j]? = some u → (Lib.bytesWorld W5 5 ⟨loc.toArray⟩).cell? ((⟨W5.heap.size, 0, none⟩ : Addr).add j) = some (.int .u8 u.toNat) := by
    intro j u hj
    have hlt : j < loc.length := (List.getElem?_eq_some_iff.1 hj).1
    have e : ((⟨W5.heap.size, 0, none⟩ : Addr).add j) = ⟨W5.heap.size, j, none⟩ := by simp [Addr.add]; omega
    rw [e, Lib.bytesWorld_cell W5 5 ⟨loc.toArray⟩ j (by simpa [ByteArray.size] using hlt)]
    simp [List.getD, hj]
  have hbel : Below W5.heap.size W5 (Lib.bytesWorld W5 5 ⟨loc.toArray⟩) := ⟨rfl, rfl, rfl, by rw [Lib.bytesWorld_size]; omega, fun k hk => Lib.bytesWorld_at_old W5 5 _ k hk⟩
  have HCELL := Lib.hid hcell
  clear hcell
  generalize (Lib.bytesWorld W5 5 ⟨loc.toArray⟩) = w3 at *
  have hC6 := Lib.hid (Chg.of_below hbel [])
  have H_c_7 := Lib.hid (hC6.out.get H_c_3.out (by simp))
  have HE8 := Lib.hid (HE4.out.after hC6.out (by simp))
  clear hbel
  have hback := fun (C : Nat) => run_convert_bytes_back (P := Tryz.prog) w3 92 9 5 ⟨W5.heap.size, 0, none⟩ C loc Tryz.underlying92 Tryz.underlying5 Tryz.underlying9 (fun j hj => HCELL.out j _ (List.getElem?_eq_getElem hj))
  have c_c_0 : w3.cell? ⟨w.heap.size, 0, none⟩ = some (vs key) := cellAt H_c_7.out 0
  have c_c_1 : w3.cell? ⟨w.heap.size, 1, none⟩ = some (.int .i64 loc.length) := cellAt H_c_7.out 1
  have c_c_2 : w3.cell? ⟨w.heap.size, 2, none⟩ = some (vs loc) := cellAt H_c_7.out 2
  have c_c_3 : w3.cell? ⟨w.heap.size, 3, none⟩ = some (.int .i64 0) := cellAt H_c_7.out 3
  go_wp2_with fail
  refine wp_loop_rounds 1 ?_
  rw [rounds_succ]
  go_wp2_with fail
  clear c_c_0 c_c_1 c_c_2 c_c_3
  go_ret2
  exact ⟨rfl, HE8.out.to_below (Nat.le_refl _) (by simp)⟩

set_option maxRecDepth 100000 in
set_option maxHeartbeats 4000000 in
theorem tfree_short (c : CellM) (hc : Short c) (tb : Nat) (w : World) : Calls Tryz.prog 72 #[ptr tb, cellV c] w fun e w' => e = .returned (.int .i64 0) ∧ Below w.heap.size w w' := by
  have HSH := Lib.hid hc
  obtain ⟨key, size, loc, page⟩ := c
  obtain ⟨hp, hs, hl⟩ := hc
  simp only at hp hs hl
  subst hp hs
  have HE1 := Lib.hid (Chg.refl [] w)
  go_enter Tryz.func72, Tryz.ntmps72
  go_wp2_with fail
  have hC2 : Hid (Chg [] w (w.alloc (.cells #[vs key, .int .i64 loc.length, vs loc, .int .i64 0] 144))) := Lib.hid ((Chg.refl [] w).alloc (.cells #[vs key, .int .i64 loc.length, vs loc, .int .i64 0] 144))
  have H_c_3 : Hid ((w.alloc (.cells #[vs key, .int .i64 loc.length, vs loc, .int .i64 0] 144)).heap[w.heap.size]? = some (.cells #[vs key, .int .i64 loc.length, vs loc, .int .i64 0] 144)) := Lib.hid (heapNew (by simp [World.setCell]) (.cells #[vs key, .int .i64 loc.length, vs loc, .int .i64 0] 144))
  have HE4 := Lib.hid (HE1.out.after hC2.out (by simp))
  generalize (w.alloc (.cells #[vs key, .int .i64 loc.length, vs loc, .int .i64 0] 144)) = W5 at *
  go_at_call 143; refine (ttext_short _ HSH.out tb _).mono ?_; rintro e W6 ⟨rfl, hb⟩
  have hC7 := Lib.hid (Chg.of_below hb [])
  have H_c_8 := Lib.hid (hC7.out.get H_c_3.out (by simp))
  have HE9 := Lib.hid (HE4.out.after hC7.out (by simp))
  clear hb
  have c_c_0 : W6.cell? ⟨w.heap.size, 0, none⟩ = some (vs key) := cellAt H_c_8.out 0
  have c_c_1 : W6.cell? ⟨w.heap.size, 1, none⟩ = some (.int .i64 loc.length) := cellAt H_c_8.out 1
  have c_c_2 : W6.cell? ⟨w.heap.size, 2, none⟩ = some (vs loc) := cellAt H_c_8.out 2
  have c_c_3 : W6.cell? ⟨w.heap.size, 3, none⟩ = some (.int .i64 0) := cellAt H_c_8.out 3
  go_wp2_with fail
  refine wp_loop_rounds 1 ?_
  rw [rounds_succ]
  go_wp2_with fail
  clear c_c_0 c_c_1 c_c_2 c_c_3
  go_ret
  exact ⟨rfl, HE9.out.to_below (Nat.le_refl _) (by simp)⟩

set_option maxRecDepth 100000 in
set_option maxHeartbeats 4000000 in
theorem tcell_short (key text : List UInt8) (ht : text.length ≤ 100) (tb : Nat) (w : World) : Calls Tryz.prog 67 #[ptr tb, vs key, vs text] w fun e w' => e = .returned (.tuple #[cellV ⟨key, text.length, text, 0⟩, .int .i64 0]) ∧ Below w.heap.size w w' := by
  have HE1 := Lib.hid (Chg.refl [] w)
  have h1 : min (text.length : Int) 100 = (text.length : Int) := by omega
  have h2 : ({ data := text.toArray } : ByteArray).extract text.length text.length = { data := #[] } := by rw [extract_drop text text.length text.length (Nat.le_refl _)]; simp
  have h3 : ({ data := text.toArray } : ByteArray).extract 0 text.length = { data := text.toArray } := by rw [extract_take text text.length]; simp
  go_enter Tryz.func67, Tryz.ntmps67
  go_wp2_with fail
  refine wp_loop_rounds 1 ?_
  rw [rounds_succ]
  go_wp2_with fail
  have hC2 : Hid (Chg [] w ((w.alloc (.cells #[vs key, .int .i64 text.length, vs text, .int .i64 0] 144)).alloc (.cells #[vs key, .int .i64 text.length, vs text, .int .i64 0] 144))) := Lib.hid (((Chg.refl [] w).alloc (.cells #[vs key, .int .i64 text.length, vs text, .int .i64 0] 144)).alloc (.cells #[vs key, .int .i64 text.length, vs text, .int .i64 0] 144))
  have H_r_3 : Hid (((w.alloc (.cells #[vs key, .int .i64 text.length, vs text, .int .i64 0] 144)).alloc (.cells #[vs key, .int .i64 text.length, vs text, .int .i64 0] 144)).heap[w.heap.size]? = some (.cells #[vs key, .int .i64 text.length, vs text, .int .i64 0] 144)) := Lib.hid (heapOld (heapNew (by simp [World.setCell]) (.cells #[vs key, .int .i64 text.length, vs text, .int .i64 0] 144)) (.cells #[vs key, .int .i64 text.length, vs text, .int .i64 0] 144))
  have H_c_4 : Hid (((w.alloc (.cells #[vs key, .int .i64 text.length, vs text, .int .i64 0] 144)).alloc (.cells #[vs key, .int .i64 text.length, vs text, .int .i64 0] 144)).heap[w.heap.size + 1]? = some (.cells #[vs key, .int .i64 text.length, vs text, .int .i64 0] 144)) := Lib.hid (heapNew (by simp [World.setCell]) (.cells #[vs key, .int .i64 text.length, vs text, .int .i64 0] 144))
  have HE5 := Lib.hid (HE1.out.after hC2.out (by simp))
  generalize ((w.alloc (.cells #[vs key, .int .i64 text.length, vs text, .int .i64 0] 144)).alloc (.cells #[vs key, .int .i64 text.length, vs text, .int .i64 0] 144)) = W6 at *
  have c_r_0 : W6.cell? ⟨w.heap.size, 0, none⟩ = some (vs key) := cellAt H_r_3.out 0
  have c_r_1 : W6.cell? ⟨w.heap.size, 1, none⟩ = some (.int .i64 text.length) := cellAt H_r_3.out 1
  have c_r_2 : W6.cell? ⟨w.heap.size, 2, none⟩ = some (vs text) := cellAt H_r_3.out 2
  have c_r_3 : W6.cell? ⟨w.heap.size, 3, none⟩ = some (.int .i64 0) := cellAt H_r_3.out 3
  exact bodyPost_ret (v := .tuple #[.agg #[vs key, .int .i64 text.length, vs text, .int .i64 0], .int .i64 0]) (by simp [results, Tryz.results67, go_sem, c_r_0, c_r_1, c_r_2, c_r_3]; try rfl) rfl ⟨rfl, HE5.out.to_below (Nat.le_refl _) (by simp)⟩

end Go.Proofs.YtobmnnihmbdfjaaGreat
