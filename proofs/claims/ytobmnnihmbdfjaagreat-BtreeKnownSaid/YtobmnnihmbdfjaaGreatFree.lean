/- space.Free; what becomes of a root. -/
import Derived.Test.YtobmnnihmbdfjaaGreatHdr
set_option linter.all false
namespace Go.Proofs.YtobmnnihmbdfjaaGreat
open Go.RowKit

abbrev freeN (n : Int) : NodeM := ⟨4, n, [], []⟩
theorem freeN_may {n : Int} (h0 : 0 ≤ n) (h9 : n ≤ 256) : mayN (freeN n) = true := by simp [mayN, pageN, h0, h9]
theorem freeN_len (n : Int) : (bytesN (freeN n)).length = 7 := by simp [bytesN, headN, two, four]
def hdrFree (h : Hdr) (n : Int) : Hdr := { h with free := n, count := min (h.count + 1) 256 }
/-- A transaction in which a page has been freed. -/
def freeTx (tx : Tx) (hd : Hdr) (n : Int) : Tx := (tx.put n (padN (bytesN (freeN hd.free)))).put 1 (putH (hdrFree hd n))

set_option maxRecDepth 100000 in
set_option maxHeartbeats 8000000 in
theorem sfree {B w pb tt mb lb L sv op base tx} (h : PgB B w pb tt mb lb L sv op base tx) (hd : Hdr) (hv : tx.view base 1 = putH hd) (hm : mayB hd = true) (hu : U64 hd.commits) (n : Int) (hn1 : 2 ≤ n) (hn2 : n ≤ tx.pages) :
    Calls Tryz.prog 54 #[ptr pb, .int .i64 n] w fun e w' => e = .returned (.int .i64 0) ∧ PgB B w' pb tt mb lb L sv op base (freeTx tx hd n) ∧ Chg [tt, mb] w w' := by
  have HPG := Lib.hid h
  have HBW := Lib.hid h.le
  have HV := Lib.hid hv
  have HM := Lib.hid hm
  have HU := Lib.hid hu
  have HN1 := Lib.hid hn1
  have HN2 := Lib.hid hn2
  have hhi := h.pg.hi
  have HT : Hid (takeH (tx.view base 1) = some hd) := Lib.hid (by rw [hv]; exact takeH_putH hd hm hu)
  have HL : Hid ((tx.view base 1).length = 512) := Lib.hid (by rw [hv]; exact putH_length hd)
  have hcb := (mayB_all hm).2.2.1
  obtain ⟨hc0, hc9⟩ := hcb
  have hfb := (mayB_all hm).1
  have HFB := Lib.hid hfb
  have HM2 : Hid (mayB (hdrFree hd n) = true) := Lib.hid (mayB_free hm n hn1 (by omega))
  have g1 : ¬ n < 2 := by omega
  have g2 : ¬ tx.pages < n := by omega
  clear h hv hm hu hfb
  obtain ⟨fr, co, cm, r0, r1, r2, r3, r4, r5, r6, r7⟩ := hd
  simp only at hc0 hc9
  have HE1 := Lib.hid (Chg.refl [tt, mb] w)
  go_enter Tryz.func54, Tryz.ntmps54
  go_wp2_with fail
  go_at_call 122; refine (sready_ok HPG.out.pg (by omega) HL.out _ HT.out).mono ?_; rintro e W2 ⟨rfl, hb⟩
  have hC3 := Lib.hid (Chg.of_below hb [])
  have HZ4 := Lib.hid hC3.out.size
  have H_pg_5 := Lib.hid (PgB.kept HPG.out hC3.out (by simp))
  have HE6 := Lib.hid (HE1.out.after hC3.out (by simp))
  clear hb
  skip
  go_upto_region 4 with fail
  have hC7 : Hid (Chg [] W2 (W2.alloc (.cells #[.int .i64 fr, .int .i64 co, .int .u64 cm, .int .i64 r0, .int .i64 r1, .int .i64 r2, .int .i64 r3, .int .i64 r4, .int .i64 r5, .int .i64 r6, .int .i64 r7] 110))) := Lib.hid ((Chg.refl [] W2).alloc (.cells #[.int .i64 fr, .int .i64 co, .int .u64 cm, .int .i64 r0, .int .i64 r1, .int .i64 r2, .int .i64 r3, .int .i64 r4, .int .i64 r5, .int .i64 r6, .int .i64 r7] 110))
  have HZ8 := Lib.hid hC7.out.size
  have H_h_9 : Hid ((W2.alloc (.cells #[.int .i64 fr, .int .i64 co, .int .u64 cm, .int .i64 r0, .int .i64 r1, .int .i64 r2, .int .i64 r3, .int .i64 r4, .int .i64 r5, .int .i64 r6, .int .i64 r7] 110)).heap[W2.heap.size]? = some (.cells #[.int .i64 fr, .int .i64 co, .int .u64 cm, .int .i64 r0, .int .i64 r1, .int .i64 r2, .int .i64 r3, .int .i64 r4, .int .i64 r5, .int .i64 r6, .int .i64 r7] 110)) := Lib.hid (heapNew (by simp [World.setCell]) (.cells #[.int .i64 fr, .int .i64 co, .int .u64 cm, .int .i64 r0, .int .i64 r1, .int .i64 r2, .int .i64 r3, .int .i64 r4, .int .i64 r5, .int .i64 r6, .int .i64 r7] 110))
  have H_pg_10 := Lib.hid (PgB.kept H_pg_5.out hC7.out (by simp))
  have HE11 := Lib.hid (HE6.out.after hC7.out (by simp))
  generalize (W2.alloc (.cells #[.int .i64 fr, .int .i64 co, .int .u64 cm, .int .i64 r0, .int .i64 r1, .int .i64 r2, .int .i64 r3, .int .i64 r4, .int .i64 r5, .int .i64 r6, .int .i64 r7] 110)) = W12 at *
  go_wp2_with fail
  go_at_call 38; refine (pages_in H_pg_10.out.pg).mono ?_; rintro e w' ⟨rfl, rfl⟩
  have c_h_0 : W12.cell? ⟨W2.heap.size, 0, none⟩ = some (.int .i64 fr) := cellAt H_h_9.out 0
  go_wp2_with fail
  clear c_h_0
  have HPUT : Hid (putN (freeN fr) = (padN (bytesN (freeN fr)), 0)) := Lib.hid (by rw [putN, freeN_may HFB.out.1 HFB.out.2, if_neg (by decide), freeN_len, if_neg (by decide)])
  go_at_call 124; refine (nput_any (freeN fr) (.slice none 0 0) _ (.inl ⟨rfl, rfl⟩) ⟨by simp, by simp, by simp⟩).mono ?_; rintro e W13 ⟨rfl, hb⟩
  have hC14 := Lib.hid (Chg.of_below hb [])
  have HZ15 := Lib.hid hC14.out.size
  have H_h_16 := Lib.hid (hC14.out.get H_h_9.out (by simp))
  have H_pg_17 := Lib.hid (PgB.kept H_pg_10.out hC14.out (by simp))
  have HE18 := Lib.hid (HE11.out.after hC14.out (by simp))
  clear hb
  rw [HPUT.out]
  simp only
  have c_h_0 : W13.cell? ⟨W2.heap.size, 0, none⟩ = some (.int .i64 fr) := cellAt H_h_16.out 0
  have c_h_1 : W13.cell? ⟨W2.heap.size, 1, none⟩ = some (.int .i64 co) := cellAt H_h_16.out 1
  have f_h_0 : W13.frozen? ⟨W2.heap.size, 0, none⟩ = false := freeAt H_h_16.out 0
  have f_h_1 : W13.frozen? ⟨W2.heap.size, 1, none⟩ = false := freeAt H_h_16.out 1
  go_wp2_with fail
  clear c_h_0 c_h_1 f_h_0 f_h_1
  have HL19 := Lib.hid (lt_of_block H_h_16.out)
  have hC20 : Hid (Chg [W2.heap.size] W13 ((W13.setCell ⟨W2.heap.size, 0, none⟩ (.int .i64 n)).setCell ⟨W2.heap.size, 1, none⟩ (.int .i64 (min (co + 1) 256)))) := Lib.hid (((Chg.refl [W2.heap.size] W13).setCell (.inl (by simp)) (.int .i64 n)).setCell (.inl (by simp)) (.int .i64 (min (co + 1) 256)))
  have HZ21 := Lib.hid hC20.out.size
  have H_h_22 : Hid (((W13.setCell ⟨W2.heap.size, 0, none⟩ (.int .i64 n)).setCell ⟨W2.heap.size, 1, none⟩ (.int .i64 (min (co + 1) 256))).heap[W2.heap.size]? = some (.cells #[.int .i64 n, .int .i64 (min (co + 1) 256), .int .u64 cm, .int .i64 r0, .int .i64 r1, .int .i64 r2, .int .i64 r3, .int .i64 r4, .int .i64 r5, .int .i64 r6, .int .i64 r7] 110)) := Lib.hid (setAt (setAt H_h_16.out 0 (.int .i64 n)) 1 (.int .i64 (min (co + 1) 256)))
  have H_pg_23 := Lib.hid (PgB.kept H_pg_17.out hC20.out (by intro k hk; have := HBW.out; have := HZ4.out; have := HZ8.out; have := HZ15.out; have := HL19.out; have := HZ21.out; simp only [List.mem_cons, List.mem_singleton, List.not_mem_nil, or_false] at hk; omega))
  have HE24 := Lib.hid (HE18.out.after hC20.out (by intro k hk; have := HBW.out; have := HZ4.out; have := HZ8.out; have := HZ15.out; have := HL19.out; have := HZ21.out; simp only [List.mem_cons, List.mem_singleton, List.not_mem_nil, or_false] at hk ⊢; omega))
  generalize ((W13.setCell ⟨W2.heap.size, 0, none⟩ (.int .i64 n)).setCell ⟨W2.heap.size, 1, none⟩ (.int .i64 (min (co + 1) 256))) = W25 at *
  refine (write_in H_pg_23.out.pg n (by omega) HN2.out _ (by show (padN (bytesN (freeN fr))).toArray.size = 512; rw [List.size_toArray, padN_length _ (by rw [freeN_len]; decide)])).mono ?_
  rintro e W26 ⟨rfl, hP, hC⟩
  have HP := Lib.hid hP
  clear hP
  have HBmb := Lib.hid H_pg_23.out.b3
  have HBtt := Lib.hid H_pg_23.out.b2
  have HL27 := Lib.hid (lt_of_block H_h_22.out)
  have HH1 := Lib.hid (hC.get H_h_22.out (by simp only [List.mem_singleton]; have := HBmb.out; have := HBW.out; have := HZ4.out; have := HZ8.out; have := HZ15.out; have := HL19.out; have := HZ21.out; have := HL27.out; omega))
  have HPF := Lib.hid (H_pg_23.out.then HP.out hC.size)
  have HE1 := Lib.hid (HE24.out.after hC (by intro k hk; simp only [List.mem_singleton] at hk; exact .inl (by simp [hk])))
  clear hC
  have c_h_0 : W26.cell? ⟨W2.heap.size, 0, none⟩ = some (.int .i64 n) := cellAt HH1.out 0
  have c_h_1 : W26.cell? ⟨W2.heap.size, 1, none⟩ = some (.int .i64 (min (co + 1) 256)) := cellAt HH1.out 1
  have c_h_2 : W26.cell? ⟨W2.heap.size, 2, none⟩ = some (.int .u64 cm) := cellAt HH1.out 2
  have c_h_3 : W26.cell? ⟨W2.heap.size, 3, none⟩ = some (.int .i64 r0) := cellAt HH1.out 3
  have c_h_4 : W26.cell? ⟨W2.heap.size, 4, none⟩ = some (.int .i64 r1) := cellAt HH1.out 4
  have c_h_5 : W26.cell? ⟨W2.heap.size, 5, none⟩ = some (.int .i64 r2) := cellAt HH1.out 5
  have c_h_6 : W26.cell? ⟨W2.heap.size, 6, none⟩ = some (.int .i64 r3) := cellAt HH1.out 6
  have c_h_7 : W26.cell? ⟨W2.heap.size, 7, none⟩ = some (.int .i64 r4) := cellAt HH1.out 7
  have c_h_8 : W26.cell? ⟨W2.heap.size, 8, none⟩ = some (.int .i64 r5) := cellAt HH1.out 8
  have c_h_9 : W26.cell? ⟨W2.heap.size, 9, none⟩ = some (.int .i64 r6) := cellAt HH1.out 9
  have c_h_10 : W26.cell? ⟨W2.heap.size, 10, none⟩ = some (.int .i64 r7) := cellAt HH1.out 10
  go_wp2_with fail
  clear c_h_0 c_h_1 c_h_2 c_h_3 c_h_4 c_h_5 c_h_6 c_h_7 c_h_8 c_h_9 c_h_10
  refine (swrite_ok HPF.out.pg (by show 1 ≤ tx.pages; omega) (hdrFree ⟨fr, co, cm, r0, r1, r2, r3, r4, r5, r6, r7⟩ n) HM2.out HU.out).mono ?_
  rintro e W28 ⟨rfl, hP, hC⟩
  have HP2 := Lib.hid hP
  have HC2 := Lib.hid hC
  clear hP hC
  go_wp2_with fail
  go_ret
  exact ⟨rfl, HPF.out.then HP2.out HC2.out.size, HE1.out.after HC2.out (by intro k hk; simp only [List.mem_singleton] at hk; exact .inl (by simp [hk]))⟩

set_option maxRecDepth 100000 in
set_option maxHeartbeats 8000000 in
theorem root_write {B w pb tt mb lb L sv op base tx} (h : PgB B w pb tt mb lb L sv op base tx) (tb : Nat) (hB : B ≤ tb) (left page : Int) (ht : w.heap[tb]? = some (treeO pb left)) (x : NodeM) (v : Value) (hx : CellsAt w v x.cells) (hm : mayN x = true) (hk : x.kind = 1 ∨ x.kind = 2) (hl : (bytesN x).length ≤ 512) (hs : Small x) (hne : 0 < x.cells.length) (hp1 : 1 ≤ page) (hp2 : page ≤ tx.pages) :
    Calls Tryz.prog 140 #[ptr tb, .int .i64 page, nodeV x v] w fun e w' => e = .returned (.tuple #[.int .i64 page, .int .i64 0]) ∧ PgB B w' pb tt mb lb L sv op base (tx.put page (padN (bytesN x))) ∧ w'.heap[tb]? = some (treeO pb left) ∧ Chg [tt, mb] w w' := by
  have HPG := Lib.hid h
  have HBT := Lib.hid hB
  have HT0 := Lib.hid ht
  have HBW := Lib.hid h.le
  have HX := Lib.hid hx
  have HSM := Lib.hid hs
  have HHI := Lib.hid h.pg.hi
  have HE1 := Lib.hid (Chg.refl [tt, mb] w)
  have HM := Lib.hid hm
  have HL := Lib.hid hl
  have HP1 := Lib.hid hp1
  have HP2 := Lib.hid hp2
  have HK := Lib.hid hk
  have hsz : sizeN x ≤ 512 := by rw [sizeN_bytes x hm hk]; omega
  have hs0 : ¬ (512 : Int) < sizeN x := by omega
  have hne0 : ((x.cells.length : Int) == 0) = false := by rw [beq_eq_false_iff_ne]; omega
  have hne1 : ((x.cells.length : Int) != 0) = true := by rw [bne_iff_ne]; omega
  clear h hB ht hx hs hm hl hp1 hp2 hk hsz
  obtain ⟨sa, scap, hv⟩ := HX.out.slice
  subst hv
  go_enter Tryz.func140, Tryz.ntmps140
  go_wp2_with fail
  have HL2 := Lib.hid (lt_of_block HT0.out)
  have hC3 : Hid (Chg [] w (w.alloc (.cells #[.int .u8 x.kind, .int .i64 x.first, .slice sa x.cells.length scap, vs x.data] 150))) := Lib.hid ((Chg.refl [] w).alloc (.cells #[.int .u8 x.kind, .int .i64 x.first, .slice sa x.cells.length scap, vs x.data] 150))
  have HZ4 := Lib.hid hC3.out.size
  have H_t_5 : Hid ((w.alloc (.cells #[.int .u8 x.kind, .int .i64 x.first, .slice sa x.cells.length scap, vs x.data] 150)).heap[tb]? = some (.cells #[ptr pb, .int .i64 left] 213)) := Lib.hid (heapOld HT0.out (.cells #[.int .u8 x.kind, .int .i64 x.first, .slice sa x.cells.length scap, vs x.data] 150))
  have H_x_6 : Hid ((w.alloc (.cells #[.int .u8 x.kind, .int .i64 x.first, .slice sa x.cells.length scap, vs x.data] 150)).heap[w.heap.size]? = some (.cells #[.int .u8 x.kind, .int .i64 x.first, .slice sa x.cells.length scap, vs x.data] 150)) := Lib.hid (heapNew (by simp [World.setCell]) (.cells #[.int .u8 x.kind, .int .i64 x.first, .slice sa x.cells.length scap, vs x.data] 150))
  have H_pg_7 := Lib.hid (PgB.kept HPG.out hC3.out (by simp))
  have HE8 := Lib.hid (HE1.out.after hC3.out (by simp))
  generalize (w.alloc (.cells #[.int .u8 x.kind, .int .i64 x.first, .slice sa x.cells.length scap, vs x.data] 150)) = W9 at *
  have HX1 : Hid (CellsAt W9 (.slice sa x.cells.length scap) x.cells) := Lib.hid (HX.out.below (hC3.out.to_below (Nat.le_refl _) (by simp)))
  go_at_call 187; refine (tsize_any x _ _ HK.out HX1.out HSM.out).mono ?_; rintro e W10 ⟨rfl, hb⟩
  have hC11 := Lib.hid (Chg.of_below hb [])
  have HZ12 := Lib.hid hC11.out.size
  have H_t_13 := Lib.hid (hC11.out.get H_t_5.out (by simp))
  have H_x_14 := Lib.hid (hC11.out.get H_x_6.out (by simp))
  have H_pg_15 := Lib.hid (PgB.kept H_pg_7.out hC11.out (by simp))
  have HE16 := Lib.hid (HE8.out.after hC11.out (by simp))
  clear hb
  have HX2 : Hid (CellsAt W10 (.slice sa x.cells.length scap) x.cells) := Lib.hid (HX1.out.below (hC11.out.to_below (Nat.le_refl _) (by simp)))
  have HNE := Lib.hid hne
  have c_x_0 : W10.cell? ⟨w.heap.size, 0, none⟩ = some (.int .u8 x.kind) := cellAt H_x_14.out 0
  have c_x_1 : W10.cell? ⟨w.heap.size, 1, none⟩ = some (.int .i64 x.first) := cellAt H_x_14.out 1
  have c_x_2 : W10.cell? ⟨w.heap.size, 2, none⟩ = some (.slice sa x.cells.length scap) := cellAt H_x_14.out 2
  have c_x_3 : W10.cell? ⟨w.heap.size, 3, none⟩ = some (vs x.data) := cellAt H_x_14.out 3
  go_wp2_with fail
  clear c_x_0 c_x_1 c_x_2 c_x_3
  go_at_call 68; refine (twrite H_pg_15.out tb HBT.out left page H_t_13.out x _ HX2.out HM.out HL.out HSM.out HP1.out HP2.out).mono ?_; rintro e W17 ⟨rfl, hP, hC⟩
  have HPF := Lib.hid hP
  have HCF := Lib.hid hC
  clear hP hC
  have HTF := Lib.hid (HCF.out.get H_t_13.out (by have q2 := HPF.out.b2; have q3 := HPF.out.b3; have := HBT.out; simp only [List.mem_cons, List.not_mem_nil, or_false, not_or]; omega))
  go_wp2_with fail
  go_ret2
  exact ⟨rfl, HPF.out, HTF.out, HE16.out.trans HCF.out⟩

set_option maxRecDepth 100000 in
set_option maxHeartbeats 8000000 in
theorem root_empty {B w pb tt mb lb L sv op base tx} (h : PgB B w pb tt mb lb L sv op base tx) (tb : Nat) (hB : B ≤ tb) (left page : Int) (ht : w.heap[tb]? = some (treeO pb left)) (x : NodeM) (v : Value) (hx : CellsAt w v x.cells) (hk : x.kind = 1 ∨ x.kind = 2) (hs : Small x) (hne : x.cells = []) (hd : Hdr) (hvw : tx.view base 1 = putH hd) (hmb : mayB hd = true) (hu : U64 hd.commits) (hp1 : 2 ≤ page) (hp2 : page ≤ tx.pages) :
    Calls Tryz.prog 140 #[ptr tb, .int .i64 page, nodeV x v] w fun e w' => e = .returned (.tuple #[.int .i64 x.first, .int .i64 0]) ∧ PgB B w' pb tt mb lb L sv op base (freeTx tx hd page) ∧ w'.heap[tb]? = some (treeO pb left) ∧ Chg [tt, mb] w w' := by
  have HPG := Lib.hid h
  have HBT := Lib.hid hB
  have HT0 := Lib.hid ht
  have HBW := Lib.hid h.le
  have HX := Lib.hid hx
  have HSM := Lib.hid hs
  have HHI := Lib.hid h.pg.hi
  have HE1 := Lib.hid (Chg.refl [tt, mb] w)
  have HVW := Lib.hid hvw
  have HMB := Lib.hid hmb
  have HU := Lib.hid hu
  have HP1 := Lib.hid hp1
  have HP2 := Lib.hid hp2
  have hsz : ¬ (512 : Int) < sizeN x := by unfold sizeN; rw [hne]; simp only [sizeC]; split <;> decide
  clear h hB ht hs hvw hmb hu
  obtain ⟨k, f, cs, d⟩ := x
  simp only at hne hk
  subst hne
  obtain ⟨sa, scap, hv⟩ := HX.out.slice
  subst hv
  clear hx
  have HK := Lib.hid hk
  clear hk
  simp only [List.length_nil] at HX ⊢
  go_enter Tryz.func140, Tryz.ntmps140
  go_wp2_with fail
  have HL2 := Lib.hid (lt_of_block HT0.out)
  have hC3 : Hid (Chg [] w (w.alloc (.cells #[.int .u8 k, .int .i64 f, .slice sa 0 scap, vs d] 150))) := Lib.hid ((Chg.refl [] w).alloc (.cells #[.int .u8 k, .int .i64 f, .slice sa 0 scap, vs d] 150))
  have HZ4 := Lib.hid hC3.out.size
  have H_t_5 : Hid ((w.alloc (.cells #[.int .u8 k, .int .i64 f, .slice sa 0 scap, vs d] 150)).heap[tb]? = some (.cells #[ptr pb, .int .i64 left] 213)) := Lib.hid (heapOld HT0.out (.cells #[.int .u8 k, .int .i64 f, .slice sa 0 scap, vs d] 150))
  have H_x_6 : Hid ((w.alloc (.cells #[.int .u8 k, .int .i64 f, .slice sa 0 scap, vs d] 150)).heap[w.heap.size]? = some (.cells #[.int .u8 k, .int .i64 f, .slice sa 0 scap, vs d] 150)) := Lib.hid (heapNew (by simp [World.setCell]) (.cells #[.int .u8 k, .int .i64 f, .slice sa 0 scap, vs d] 150))
  have H_pg_7 := Lib.hid (PgB.kept HPG.out hC3.out (by simp))
  have HE8 := Lib.hid (HE1.out.after hC3.out (by simp))
  generalize (w.alloc (.cells #[.int .u8 k, .int .i64 f, .slice sa 0 scap, vs d] 150)) = W9 at *
  have HX1 : Hid (CellsAt W9 (.slice sa 0 scap) []) := Lib.hid (HX.out.below (hC3.out.to_below (Nat.le_refl _) (by simp)))
  go_at_call 187; refine (tsize_any (⟨k, f, [], d⟩ : NodeM) _ _ HK.out HX1.out HSM.out).mono ?_; rintro e W10 ⟨rfl, hb⟩
  have hC11 := Lib.hid (Chg.of_below hb [])
  have HZ12 := Lib.hid hC11.out.size
  have H_t_13 := Lib.hid (hC11.out.get H_t_5.out (by simp))
  have H_x_14 := Lib.hid (hC11.out.get H_x_6.out (by simp))
  have H_pg_15 := Lib.hid (PgB.kept H_pg_7.out hC11.out (by simp))
  have HE16 := Lib.hid (HE8.out.after hC11.out (by simp))
  clear hb
  have c_x_2 : W10.cell? ⟨w.heap.size, 2, none⟩ = some (.slice sa 0 scap) := cellAt H_x_14.out 2
  go_wp2_with fail
  clear c_x_2
  have c_x_1 : W10.cell? ⟨w.heap.size, 1, none⟩ = some (.int .i64 f) := cellAt H_x_14.out 1
  have c_t_0 : W10.cell? ⟨tb, 0, none⟩ = some (ptr pb) := cellAt H_t_13.out 0
  have HL17 := Lib.hid (lt_of_block H_t_13.out)
  have HL18 := Lib.hid (lt_of_block H_x_14.out)
  have hlx : w.heap.size < W10.heap.size := lt_of_block H_x_14.out
  have hlt : tb < W10.heap.size := lt_of_block H_t_13.out
  have HNX : Hid (w.heap.size ∉ [tt, mb]) := Lib.hid (by have q2 := H_pg_15.out.b2; have q3 := H_pg_15.out.b3; have := HBW.out; simp only [List.mem_cons, List.not_mem_nil, or_false, not_or]; omega)
  have HNT : Hid (tb ∉ [tt, mb]) := Lib.hid (by have q2 := H_pg_15.out.b2; have q3 := H_pg_15.out.b3; have := HBT.out; simp only [List.mem_cons, List.not_mem_nil, or_false, not_or]; omega)
  go_region_held3 (fun w' => w'.cell? ⟨w.heap.size, 1, none⟩ = some (.int .i64 f) ∧ w'.cell? ⟨tb, 0, none⟩ = some (ptr pb)) (first | exact ⟨c_x_1, c_t_0⟩ | exact ⟨(hC.cell _ 1 hlx HNX.out).trans c_x_1, (hC.cell _ 0 hlt HNT.out).trans c_t_0⟩) (first | (go_at_call 54; refine (sfree (H_pg_15.out.kept ((Chg.refl [] _).drew) (by simp)) hd HVW.out HMB.out HU.out page HP1.out HP2.out).mono ?_; rintro e w' ⟨rfl, hP, hC⟩))
  all_goals (have HP := Lib.hid hP; have HC : Hid (Chg [tt, mb] W10 _) := Lib.hid (((Chg.refl [tt, mb] W10).drew).trans hC); have HT := Lib.hid (HC.out.get H_t_13.out HNT.out); clear hP hC; go_wp2; go_ret2; exact ⟨rfl, HP.out, HT.out, HE16.out.trans HC.out⟩)

end Go.Proofs.YtobmnnihmbdfjaaGreat
