/- btree.next at a leaf, Next, Get. -/
import Derived.Test.YtobmnnihmbdfjaaGreatChanged
set_option linter.all false
namespace Go.Proofs.YtobmnnihmbdfjaaGreat
open Go.RowKit

/-- What is told of a leaf. -/
def nextL (l : List CellM) (key : List UInt8) : List UInt8 × List UInt8 × Int :=
  match l[atN l key]? with
  | none => ([], [], 4)
  | some c => (c.key, c.loc, 0)
def NextPost (r : List UInt8 × List UInt8 × Int) (w : World) (e : Ending) (w' : World) : Prop := e = .returned (.tuple #[vs r.1, vs r.2.1, .int .i64 r.2.2]) ∧ Below w.heap.size w w'

set_option maxRecDepth 100000 in
set_option maxHeartbeats 8000000 in
theorem next_leaf {B w pb tt mb lb L sv op base tx} (h : PgB B w pb tt mb lb L sv op base tx) (tb : Nat) (hB : B ≤ tb) (left page depth : Int) (hl0 : 1 ≤ left) (hl9 : left ≤ 1000) (ht : w.heap[tb]? = some (treeO pb left)) (from_ : List UInt8) (x : NodeM)
    (hlen : (tx.view base page).length ≤ 100000) (hrd : readN base tx left page [1, 2] = some x) (hk : x.kind = 1) (hso : SortedC x.cells) (hsm : Small x) (hsh : ∀ c ∈ x.cells, Short c) :
    Calls Tryz.prog 75 #[ptr tb, .int .i64 page, vs from_, .int .i64 depth] w fun e w' => e = .returned (.tuple #[vs (nextL x.cells from_).1, vs (nextL x.cells from_).2.1, .int .i64 (nextL x.cells from_).2.2]) ∧ w'.heap[tb]? = some (treeO pb (left - 1)) ∧ Chg [tb] w w' := by
  have HPG := Lib.hid h
  have HBT := Lib.hid hB
  have HT0 := Lib.hid ht
  have HBW := Lib.hid h.le
  have HRD := Lib.hid hrd
  have HVL := Lib.hid hlen
  have HSO := Lib.hid hso
  have HSM := Lib.hid hsm
  have HSH := Lib.hid hsh
  clear h hB ht hrd hlen hso hsm hsh
  have HE1 := Lib.hid (Chg.refl [tb] w)
  have HTW := Lib.hid (lt_of_block HT0.out)
  go_enter Tryz.func75, Tryz.ntmps75
  go_wp2_with fail
  have HL2 := Lib.hid (lt_of_block HT0.out)
  have hC3 : Hid (Chg [] w (w.alloc (.cells #[.int .u8 1, .int .u8 2] 5))) := Lib.hid ((Chg.refl [] w).alloc (.cells #[.int .u8 1, .int .u8 2] 5))
  have HZ4 := Lib.hid hC3.out.size
  have H_t_5 : Hid ((w.alloc (.cells #[.int .u8 1, .int .u8 2] 5)).heap[tb]? = some (.cells #[ptr pb, .int .i64 left] 213)) := Lib.hid (heapOld HT0.out (.cells #[.int .u8 1, .int .u8 2] 5))
  have H_kinds_6 : Hid ((w.alloc (.cells #[.int .u8 1, .int .u8 2] 5)).heap[w.heap.size]? = some (.cells #[.int .u8 1, .int .u8 2] 5)) := Lib.hid (heapNew (by simp [World.setCell]) (.cells #[.int .u8 1, .int .u8 2] 5))
  have H_pg_7 := Lib.hid (PgB.kept HPG.out hC3.out (by simp))
  have HE8 := Lib.hid (HE1.out.after hC3.out (by simp))
  generalize (w.alloc (.cells #[.int .u8 1, .int .u8 2] 5)) = W9 at *
  have HL10 := Lib.hid (lt_of_block H_t_5.out)
  have HL11 := Lib.hid (lt_of_block H_kinds_6.out)
  go_at_call 144; refine (tread_any H_pg_7.out tb HBT.out left page (by omega) (by omega) H_t_5.out [1, 2] (by decide) (w.heap.size) 2 (by have := HBT.out; have := HBW.out; have := HTW.out; have := HL2.out; have := HZ4.out; have := HL10.out; have := HL11.out; omega) H_kinds_6.out HVL.out).mono ?_; rintro e W12 ⟨v, he, hr, ht', hc'⟩
  rw [HRD.out] at he hr
  obtain rfl := he
  simp only [Option.getD_some, Option.isSome_some, if_true] at hr ⊢
  have HROW := Lib.hid hr
  clear hr
  have hC13 := Lib.hid hc'
  have HZ14 := Lib.hid hC13.out.size
  have H_t_15 : Hid (W12.heap[tb]? = some (treeO pb (left - 1))) := Lib.hid ht'
  have H_kinds_16 := Lib.hid (hC13.out.get H_kinds_6.out (by have := HBT.out; have := HBW.out; have := HTW.out; have := HL2.out; have := HZ4.out; have := HL10.out; have := HL11.out; have := HZ14.out; simp only [List.mem_cons, List.mem_singleton, List.not_mem_nil, or_false, not_or, not_false_eq_true]; omega))
  have H_pg_17 := Lib.hid (PgB.kept H_pg_7.out hC13.out (by intro k hk; have := HBT.out; have := HBW.out; have := HTW.out; have := HL2.out; have := HZ4.out; have := HL10.out; have := HL11.out; have := HZ14.out; simp only [List.mem_cons, List.mem_singleton, List.not_mem_nil, or_false] at hk; omega))
  have HE18 := Lib.hid (HE8.out.after hC13.out (by intro k hk; have := HBT.out; have := HBW.out; have := HTW.out; have := HL2.out; have := HZ4.out; have := HL10.out; have := HL11.out; have := HZ14.out; simp only [List.mem_cons, List.mem_singleton, List.not_mem_nil, or_false] at hk ⊢; omega))
  clear hc' ht'
  obtain ⟨sa, scap, hv⟩ := (rowCells HROW.out).slice
  subst hv
  obtain ⟨k, f, cs, d⟩ := x
  simp only at hk
  subst hk
  simp only at HSO HSM HSH
  go_wp2_with fail
  have HL19 := Lib.hid (lt_of_block H_t_15.out)
  have HL20 := Lib.hid (lt_of_block H_kinds_16.out)
  have hC21 : Hid (Chg [] W12 (W12.alloc (.cells #[.int .u8 1, .int .i64 f, .slice sa cs.length scap, vs d] 150))) := Lib.hid ((Chg.refl [] W12).alloc (.cells #[.int .u8 1, .int .i64 f, .slice sa cs.length scap, vs d] 150))
  have HZ22 := Lib.hid hC21.out.size
  have H_t_23 : Hid ((W12.alloc (.cells #[.int .u8 1, .int .i64 f, .slice sa cs.length scap, vs d] 150)).heap[tb]? = some (treeO pb (left - 1))) := Lib.hid (heapOld H_t_15.out (.cells #[.int .u8 1, .int .i64 f, .slice sa cs.length scap, vs d] 150))
  have H_kinds_24 : Hid ((W12.alloc (.cells #[.int .u8 1, .int .i64 f, .slice sa cs.length scap, vs d] 150)).heap[w.heap.size]? = some (.cells #[.int .u8 1, .int .u8 2] 5)) := Lib.hid (heapOld H_kinds_16.out (.cells #[.int .u8 1, .int .i64 f, .slice sa cs.length scap, vs d] 150))
  have H_x_25 : Hid ((W12.alloc (.cells #[.int .u8 1, .int .i64 f, .slice sa cs.length scap, vs d] 150)).heap[W12.heap.size]? = some (.cells #[.int .u8 1, .int .i64 f, .slice sa cs.length scap, vs d] 150)) := Lib.hid (heapNew (by simp [World.setCell]) (.cells #[.int .u8 1, .int .i64 f, .slice sa cs.length scap, vs d] 150))
  have H_pg_26 := Lib.hid (PgB.kept H_pg_17.out hC21.out (by simp))
  have H_row_27 := Lib.hid (ownsRow_chg HROW.out hC21.out (by simp))
  have HE28 := Lib.hid (HE18.out.after hC21.out (by simp))
  generalize (W12.alloc (.cells #[.int .u8 1, .int .i64 f, .slice sa cs.length scap, vs d] 150)) = W29 at *
  go_at_call 71; refine (at_any (⟨1, f, cs, d⟩ : NodeM) _ from_ _ (rowCells H_row_27.out) HSM.out.cells HSO.out).mono ?_; rintro e W30 ⟨rfl, hb⟩
  have hC31 := Lib.hid (Chg.of_below hb [])
  have HZ32 := Lib.hid hC31.out.size
  have H_t_33 := Lib.hid (hC31.out.get H_t_23.out (by simp))
  have H_kinds_34 := Lib.hid (hC31.out.get H_kinds_24.out (by simp))
  have H_x_35 := Lib.hid (hC31.out.get H_x_25.out (by simp))
  have H_pg_36 := Lib.hid (PgB.kept H_pg_26.out hC31.out (by simp))
  have H_row_37 := Lib.hid (ownsRow_chg H_row_27.out hC31.out (by simp))
  have HE38 := Lib.hid (HE28.out.after hC31.out (by simp))
  clear hb
  obtain ⟨i, hi⟩ : ∃ i, i = atN cs from_ := ⟨_, rfl⟩
  have HI := Lib.hid hi
  simp only
  rw [← hi]
  clear hi
  have hile : i ≤ cs.length := by rw [HI.out]; exact atN_le _ _
  have hln : cs.length ≤ 100000 := HSM.out.cells
  by_cases hlt : i < cs.length
  ·
    have hi0 : (0 : Int) ≤ (i : Int) := by omega
    have hi1 : (i : Int) < (cs.length : Int) := by omega
    have e1 : ((i : Int) == (cs.length : Int)) = false := by rw [beq_eq_false_iff_ne]; omega
    have e2 : decide ((i : Int) = (cs.length : Int)) = false := by simp; omega
    have hne : ¬ i = cs.length := by omega
    obtain ⟨c, hc⟩ : ∃ c, cs[i]? = some c := ⟨_, List.getElem?_eq_getElem hlt⟩
    have HSC := Lib.hid (HSH.out c (List.mem_of_getElem? hc))
    have HNL : Hid (nextL cs from_ = (c.key, c.loc, 0)) := Lib.hid (by unfold nextL; rw [← HI.out, hc])
    rcases rowCells H_row_37.out with ⟨-, h0⟩ | ⟨b, off, cap', hvv, hbl, hcs⟩
    · rw [h0] at hlt; simp at hlt
    have HCS := Lib.hid hcs
    obtain ⟨k0, k1, k2, k3⟩ := hcs i c hc
    cases hvv
    have HBL := Lib.hid hbl
    have HC := Lib.hid hc
    clear hcs hc hbl
    have c_x_2 : W30.cell? ⟨W12.heap.size, 2, none⟩ = some (.slice (some ⟨b, off, none⟩) cs.length scap) := cellAt H_x_35.out 2
    go_wp2_with fail
    clear c_x_2
    clear k0 k1 k2 k3
    go_at_call 143; refine (ttext_short c HSC.out tb _).mono ?_; rintro e W39 ⟨rfl, hb⟩
    have hC40 := Lib.hid (Chg.of_below hb [])
    have HZ41 := Lib.hid hC40.out.size
    have H_t_42 := Lib.hid (hC40.out.get H_t_33.out (by simp))
    have H_kinds_43 := Lib.hid (hC40.out.get H_kinds_34.out (by simp))
    have H_x_44 := Lib.hid (hC40.out.get H_x_35.out (by simp))
    have H_pg_45 := Lib.hid (PgB.kept H_pg_36.out hC40.out (by simp))
    have H_row_46 := Lib.hid (ownsRow_chg H_row_37.out hC40.out (by simp))
    have HE47 := Lib.hid (HE38.out.after hC40.out (by simp))
    clear hb
    have k0 : W39.cell? ⟨b, off + i * 4, none⟩ = some (vs c.key) := by
      rcases rowCells H_row_46.out with ⟨h0, -⟩ | ⟨b', off', cap2, hvv, -, hcs⟩
      · simp at h0
      · simp only [Value.slice.injEq, Option.some.injEq, Addr.mk.injEq, and_true, true_and] at hvv
        obtain ⟨⟨rfl, rfl⟩, rfl⟩ := hvv
        exact (hcs i c HC.out).1
    have c_x_2 : W39.cell? ⟨W12.heap.size, 2, none⟩ = some (.slice (some ⟨b, off, none⟩) cs.length scap) := cellAt H_x_44.out 2
    go_wp2_with fail
    clear c_x_2
    go_ret3
    exact ⟨by rw [HNL.out]; rfl, H_t_42.out, HE47.out⟩
  ·
    obtain rfl : i = cs.length := by omega
    have HNL : Hid (nextL cs from_ = ([], [], 4)) := Lib.hid (by unfold nextL; rw [← HI.out]; simp)
    clear hlt hile
    have c_x_2 : W30.cell? ⟨W12.heap.size, 2, none⟩ = some (.slice sa cs.length scap) := cellAt H_x_35.out 2
    go_wp2_with fail
    clear c_x_2
    go_ret3
    exact ⟨by rw [HNL.out]; rfl, H_t_33.out, HE38.out⟩

set_option maxRecDepth 100000 in
set_option maxHeartbeats 8000000 in
theorem Next_leaf {w pb tt mb lb L sv op base tx} (h : PgIn w pb tt mb lb L sv op base tx) (root : Int) (hr1 : 1 ≤ root) (from_ : List UInt8) (x : NodeM)
    (hlen : (tx.view base root).length ≤ 100000) (hrd : readN base tx 64 root [1, 2] = some x) (hk : x.kind = 1) (hso : SortedC x.cells) (hsm : Small x) (hsh : ∀ c ∈ x.cells, Short c) :
    Calls Tryz.prog 15 #[ptr pb, .int .i64 root, vs from_] w (NextPost (nextL x.cells from_) w) := by
  have HPG := Lib.hid h.inB
  have HRD := Lib.hid hrd
  have HVL := Lib.hid hlen
  have HSO := Lib.hid hso
  have HSM := Lib.hid hsm
  have HSH := Lib.hid hsh
  have hr0 : (root == 0) = false := by rw [beq_eq_false_iff_ne]; omega
  clear h hrd hlen hso hsm hsh
  have HE1 := Lib.hid (Chg.refl [] w)
  have hz : (nextL x.cells from_).2.2 = 0 ∨ (nextL x.cells from_).2.2 = 4 ∧ (nextL x.cells from_).1 = [] ∧ (nextL x.cells from_).2.1 = [] := by unfold nextL; split <;> simp
  have HZ := Lib.hid hz
  clear hz
  go_enter Tryz.func15, Tryz.ntmps15
  go_wp2_with fail
  go_at_call 66; refine (tbegin _ _).mono ?_; rintro e w' ⟨rfl, rfl⟩
  go_wp2_with fail
  have hC2 : Hid (Chg [] w (w.alloc (treeO pb 64))) := Lib.hid ((Chg.refl [] w).alloc (treeO pb 64))
  have HZ3 := Lib.hid hC2.out.size
  have H_t_4 : Hid ((w.alloc (treeO pb 64)).heap[w.heap.size]? = some (treeO pb 64)) := Lib.hid (heapNew (by simp [World.setCell]) (treeO pb 64))
  have H_pg_5 := Lib.hid (PgB.kept HPG.out hC2.out (by simp))
  have HE6 := Lib.hid (HE1.out.after hC2.out (by simp))
  generalize (w.alloc (treeO pb 64)) = W7 at *
  go_at_call 75; refine (next_leaf H_pg_5.out (w.heap.size) (Nat.le_refl _) 64 root 1 (by decide) (by decide) H_t_4.out from_ x HVL.out HRD.out hk HSO.out HSM.out HSH.out).mono ?_; rintro e W8 ⟨rfl, ht1, hc1⟩
  have hC9 := Lib.hid hc1
  have HZ10 := Lib.hid hC9.out.size
  have H_t_11 : Hid (W8.heap[w.heap.size]? = some (treeO pb (64 - 1))) := Lib.hid ht1
  have H_pg_12 := Lib.hid (PgB.kept H_pg_5.out hC9.out (by intro k hk; have := HZ3.out; have := HZ10.out; simp only [List.mem_cons, List.mem_singleton, List.not_mem_nil, or_false] at hk; omega))
  have HE13 := Lib.hid (HE6.out.after hC9.out (by intro k hk; have := HZ3.out; have := HZ10.out; simp only [List.mem_cons, List.mem_singleton, List.not_mem_nil, or_false] at hk ⊢; omega))
  clear hc1 ht1
  have HN : Hid (nextL x.cells from_ = nextL x.cells from_) := Lib.hid rfl
  rcases hnl : nextL x.cells from_ with ⟨a, b, z⟩
  have HNL := Lib.hid hnl
  rw [hnl] at HZ
  clear hnl HN
  simp only at HZ ⊢
  rcases HZ.out with rfl | ⟨rfl, rfl, rfl⟩
  ·
    go_wp2_with fail
    go_ret3
    exact ⟨by rw [HNL.out]; rfl, HE13.out.to_below (Nat.le_refl _) (by simp)⟩
  ·
    go_wp2_with fail
    go_ret3
    exact ⟨by rw [HNL.out]; rfl, HE13.out.to_below (Nat.le_refl _) (by simp)⟩

theorem Next_zero (pb : Nat) (from_ : List UInt8) (w : World) : Calls Tryz.prog 15 #[ptr pb, .int .i64 0, vs from_] w (NextPost ([], [], 4) w) := by
  go_enter Tryz.func15, Tryz.ntmps15
  go_wp2
  go_ret3
  exact ⟨rfl, Below.refl _ _⟩
theorem Next_nil (root : Int) (from_ : List UInt8) (w : World) : Calls Tryz.prog 15 #[.pointer none, .int .i64 root, vs from_] w (NextPost ([], [], 1) w) := by
  go_enter Tryz.func15, Tryz.ntmps15
  go_wp2
  go_ret3
  exact ⟨rfl, Below.refl _ _⟩
def getOf (r : List UInt8 × List UInt8 × Int) (key : List UInt8) : List UInt8 × Int := if r.2.2 ≠ 0 then ([], r.2.2) else if r.1 ≠ key then ([], 4) else (r.2.1, 0)
def GetPost (r : List UInt8 × Int) (w : World) (e : Ending) (w' : World) : Prop := e = .returned (.tuple #[vs r.1, .int .i64 r.2]) ∧ Below w.heap.size w w'
theorem Get_of (p : Value) (root : Int) (key : List UInt8) (r : List UInt8 × List UInt8 × Int) (w : World) (hN : Calls Tryz.prog 15 #[p, .int .i64 root, vs key] w (NextPost r w)) :
    Calls Tryz.prog 16 #[p, .int .i64 root, vs key] w (GetPost (getOf r key) w) := by
  obtain ⟨a, b, z⟩ := r
  have HN := Lib.hid hN
  clear hN
  have HG : Hid (getOf (a, b, z) key = if z ≠ 0 then ([], z) else if a ≠ key then ([], 4) else (b, 0)) := Lib.hid rfl
  by_cases hz : z = 0
  · subst hz
    by_cases ha : a = key
    · subst ha
      have e1 : (a != a) = false := by simp
      have HG2 : Hid (getOf (a, b, 0) a = (b, 0)) := Lib.hid (by rw [HG.out]; simp)
      go_enter Tryz.func16, Tryz.ntmps16
      go_wp2_with (go_at_call 15; refine HN.out.mono ?_; rintro e w1 ⟨rfl, hb⟩)
      go_ret2
      exact ⟨by rw [HG2.out]; rfl, hb⟩
    · have e1 : (a != key) = true := by simpa using ha
      have e2 : (a == key) = false := by simpa using ha
      have HG2 : Hid (getOf (a, b, 0) key = ([], 4)) := Lib.hid (by rw [HG.out]; simp [ha])
      go_enter Tryz.func16, Tryz.ntmps16
      go_wp2_with (go_at_call 15; refine HN.out.mono ?_; rintro e w1 ⟨rfl, hb⟩)
      go_ret2
      exact ⟨by rw [HG2.out]; rfl, hb⟩
  · have e1 : (z == 0) = false := by simpa using hz
    have e2 : (z != 0) = true := by simpa using hz
    have HG2 : Hid (getOf (a, b, z) key = ([], z)) := Lib.hid (by rw [HG.out]; simp [hz])
    go_enter Tryz.func16, Tryz.ntmps16
    go_wp2_with (go_at_call 15; refine HN.out.mono ?_; rintro e w1 ⟨rfl, hb⟩)
    go_ret2
    exact ⟨by rw [HG2.out]; rfl, hb⟩

end Go.Proofs.YtobmnnihmbdfjaaGreat
