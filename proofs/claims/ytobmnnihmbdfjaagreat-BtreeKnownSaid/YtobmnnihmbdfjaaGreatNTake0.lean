/- Pages of trees: node.Take. -/
import Derived.Test.YtobmnnihmbdfjaaGreatCRows
import Derived.Test.YtobmnnihmbdfjaaGreatKeys
set_option linter.all false
namespace Go.Proofs.YtobmnnihmbdfjaaGreat
open Go.RowKit

set_option maxRecDepth 100000 in
set_option maxHeartbeats 8000000 in
theorem ntake_k0 (p : List UInt8) (hsz : p.length = 512) (hk : kindOf p ≠ 1 ∧ kindOf p ≠ 2 ∧ kindOf p ≠ 3) (w : World) : Calls Tryz.prog 123 #[vs p] w (TakePost p w) := by
  obtain ⟨i0, hi0, hz0, hz1, hz2⟩ := info_parts info144
  have HK := Lib.hid hk
  clear hk
  go_enter Tryz.func123, Tryz.ntmps123
  go_wp2_with fail
  have HSZ := Lib.hid hsz
  clear hsz
  have HE1 := Lib.hid (Chg.refl [] w)
  have hC2 : Hid (Chg [] w ((w.alloc (.cells #[.int .u8 0, .int .i64 0, .slice none 0 0, .string { data := #[] }] 150)).alloc (restO p true))) := Lib.hid (((Chg.refl [] w).alloc (.cells #[.int .u8 0, .int .i64 0, .slice none 0 0, .string { data := #[] }] 150)).alloc (restO p true))
  have H_res_3 : Hid (((w.alloc (.cells #[.int .u8 0, .int .i64 0, .slice none 0 0, .string { data := #[] }] 150)).alloc (restO p true)).heap[w.heap.size]? = some (.cells #[.int .u8 0, .int .i64 0, .slice none 0 0, .string { data := #[] }] 150)) := Lib.hid (heapOld (heapNew (by simp [World.setCell]) (.cells #[.int .u8 0, .int .i64 0, .slice none 0 0, .string { data := #[] }] 150)) (restO p true))
  have H_rest_4 : Hid (((w.alloc (.cells #[.int .u8 0, .int .i64 0, .slice none 0 0, .string { data := #[] }] 150)).alloc (restO p true)).heap[w.heap.size + 1]? = some (restO p true)) := Lib.hid (heapNew (by simp [World.setCell]) (restO p true))
  have HE5 := Lib.hid (HE1.out.after hC2.out (by simp))
  generalize ((w.alloc (.cells #[.int .u8 0, .int .i64 0, .slice none 0 0, .string { data := #[] }] 150)).alloc (restO p true)) = W6 at *
  rcases h1 : rnum 1 ⟨p, true⟩ with ⟨k, r1⟩
  have Fh1 := rnum_facts h1 (by decide)
  simp only [show ((256 : Int) ^ (1 : Int).toNat) = 256 by decide] at Fh1
  obtain ⟨k0, k9, Fh1⟩ := Fh1
  have H_h1 := Lib.hid h1
  have H_Fh1 := Lib.hid Fh1
  clear h1 Fh1
  go_at_call 181; refine (rnum_any 1 (by decide) (by decide) _ _ _ H_h1.out _ _ (by have := HSZ.out; simp only; omega) H_rest_4.out).mono ?_; rintro e W7 ⟨rfl, hr, hc⟩
  have hC8 := Lib.hid hc
  have H_res_9 := Lib.hid (hC8.out.get H_res_3.out (by simp only [List.mem_cons, List.mem_singleton, List.not_mem_nil, or_false, not_or, not_false_eq_true]; omega))
  have H_rest_10 : Hid (W7.heap[w.heap.size + 1]? = some (restO r1.s r1.ok)) := Lib.hid hr
  have HE11 := Lib.hid (HE5.out.after hC8.out (by intro k hk; simp only [List.mem_cons, List.mem_singleton, List.not_mem_nil, or_false] at hk ⊢; omega))
  clear hc hr
  have hko : k ≠ 1 ∧ k ≠ 2 ∧ k ≠ 3 := by have := HK.out; rw [kindOf, H_h1.out] at this; exact this
  obtain ⟨k1, k2, k3⟩ := hko
  have HK3 := Lib.hid (And.intro k1 (And.intro k2 k3))
  have k1a : (k == 1) = false := by simpa using k1
  have k1b : (k != 1) = true := by simpa using k1
  have k2a : (k == 2) = false := by simpa using k2
  have k2b : (k != 2) = true := by simpa using k2
  have k3a : (k == 3) = false := by simpa using k3
  have k3b : (k != 3) = true := by simpa using k3
  clear k1 k2 k3
  go_wp2_with fail
  have HL12 := Lib.hid (lt_of_block H_res_9.out)
  have HL13 := Lib.hid (lt_of_block H_rest_10.out)
  have hC14 : Hid (Chg [] W7 (W7.alloc (.cells #[.int .u8 k, .int .i64 0, .slice none 0 0, .string { data := #[] }] 150))) := Lib.hid ((Chg.refl [] W7).alloc (.cells #[.int .u8 k, .int .i64 0, .slice none 0 0, .string { data := #[] }] 150))
  have H_res_15 : Hid ((W7.alloc (.cells #[.int .u8 k, .int .i64 0, .slice none 0 0, .string { data := #[] }] 150)).heap[w.heap.size]? = some (.cells #[.int .u8 0, .int .i64 0, .slice none 0 0, .string { data := #[] }] 150)) := Lib.hid (heapOld H_res_9.out (.cells #[.int .u8 k, .int .i64 0, .slice none 0 0, .string { data := #[] }] 150))
  have H_rest_16 : Hid ((W7.alloc (.cells #[.int .u8 k, .int .i64 0, .slice none 0 0, .string { data := #[] }] 150)).heap[w.heap.size + 1]? = some (restO r1.s r1.ok)) := Lib.hid (heapOld H_rest_10.out (.cells #[.int .u8 k, .int .i64 0, .slice none 0 0, .string { data := #[] }] 150))
  have H_node_17 : Hid ((W7.alloc (.cells #[.int .u8 k, .int .i64 0, .slice none 0 0, .string { data := #[] }] 150)).heap[W7.heap.size]? = some (.cells #[.int .u8 k, .int .i64 0, .slice none 0 0, .string { data := #[] }] 150)) := Lib.hid (heapNew (by simp [World.setCell]) (.cells #[.int .u8 k, .int .i64 0, .slice none 0 0, .string { data := #[] }] 150))
  have HE18 := Lib.hid (HE11.out.after hC14.out (by simp))
  generalize (W7.alloc (.cells #[.int .u8 k, .int .i64 0, .slice none 0 0, .string { data := #[] }] 150)) = W19 at *
  rcases h2 : rnum 2 r1 with ⟨m, r2⟩
  have Fh2 := rnum_facts h2 (by decide)
  simp only [show ((256 : Int) ^ (2 : Int).toNat) = 65536 by decide] at Fh2
  obtain ⟨m0, m9, Fh2⟩ := Fh2
  have H_h2 := Lib.hid h2
  have H_Fh2 := Lib.hid Fh2
  clear h2 Fh2
  go_at_call 181; refine (rnum_any 2 (by decide) (by decide) _ _ _ H_h2.out _ _ (by have := H_Fh1.out; have := HSZ.out; first | omega | (simp only at *; omega)) H_rest_16.out).mono ?_; rintro e W20 ⟨rfl, hr, hc⟩
  have hC21 := Lib.hid hc
  have H_res_22 := Lib.hid (hC21.out.get H_res_15.out (by have := HL12.out; have := HL13.out; simp only [List.mem_cons, List.mem_singleton, List.not_mem_nil, or_false, not_or, not_false_eq_true]; omega))
  have H_rest_23 : Hid (W20.heap[w.heap.size + 1]? = some (restO r2.s r2.ok)) := Lib.hid hr
  have H_node_24 := Lib.hid (hC21.out.get H_node_17.out (by have := HL12.out; have := HL13.out; simp only [List.mem_cons, List.mem_singleton, List.not_mem_nil, or_false, not_or, not_false_eq_true]; omega))
  have HE25 := Lib.hid (HE18.out.after hC21.out (by intro k hk; have := HL12.out; have := HL13.out; simp only [List.mem_cons, List.mem_singleton, List.not_mem_nil, or_false] at hk ⊢; omega))
  clear hc hr
  have c_node_0 : W20.cell? ⟨W7.heap.size, 0, none⟩ = some (.int .u8 k) := cellAt H_node_24.out 0
  have c_node_1 : W20.cell? ⟨W7.heap.size, 1, none⟩ = some (.int .i64 0) := cellAt H_node_24.out 1
  have f_node_1 : W20.frozen? ⟨W7.heap.size, 1, none⟩ = false := freeAt H_node_24.out 1
  go_wp2_with fail
  clear c_node_0 c_node_1 f_node_1
  rcases h3 : rnum 4 r2 with ⟨f, r3⟩
  have Fh3 := rnum_facts h3 (by decide)
  simp only [show ((256 : Int) ^ (4 : Int).toNat) = 4294967296 by decide] at Fh3
  obtain ⟨f0, f9, Fh3⟩ := Fh3
  have H_h3 := Lib.hid h3
  have H_Fh3 := Lib.hid Fh3
  clear h3 Fh3
  go_at_call 181; refine (rnum_any 4 (by decide) (by decide) _ _ _ H_h3.out _ _ (by have := H_Fh1.out; have := H_Fh2.out; have := HSZ.out; first | omega | (simp only at *; omega)) H_rest_23.out).mono ?_; rintro e W26 ⟨rfl, hr, hc⟩
  have hC27 := Lib.hid hc
  have H_res_28 := Lib.hid (hC27.out.get H_res_22.out (by have := HL12.out; have := HL13.out; simp only [List.mem_cons, List.mem_singleton, List.not_mem_nil, or_false, not_or, not_false_eq_true]; omega))
  have H_rest_29 : Hid (W26.heap[w.heap.size + 1]? = some (restO r3.s r3.ok)) := Lib.hid hr
  have H_node_30 := Lib.hid (hC27.out.get H_node_24.out (by have := HL12.out; have := HL13.out; simp only [List.mem_cons, List.mem_singleton, List.not_mem_nil, or_false, not_or, not_false_eq_true]; omega))
  have HE31 := Lib.hid (HE25.out.after hC27.out (by intro k hk; have := HL12.out; have := HL13.out; simp only [List.mem_cons, List.mem_singleton, List.not_mem_nil, or_false] at hk ⊢; omega))
  clear hc hr
  have c_node_0 : W26.cell? ⟨W7.heap.size, 0, none⟩ = some (.int .u8 k) := cellAt H_node_30.out 0
  have c_node_1 : W26.cell? ⟨W7.heap.size, 1, none⟩ = some (.int .i64 0) := cellAt H_node_30.out 1
  have c_node_2 : W26.cell? ⟨W7.heap.size, 2, none⟩ = some (.slice none 0 0) := cellAt H_node_30.out 2
  have c_node_3 : W26.cell? ⟨W7.heap.size, 3, none⟩ = some (.string { data := #[] }) := cellAt H_node_30.out 3
  have f_node_1 : W26.frozen? ⟨W7.heap.size, 1, none⟩ = false := freeAt H_node_30.out 1
  go_wp2_with fail
  clear c_node_0 c_node_1 c_node_2 c_node_3 f_node_1
  have HL32 := Lib.hid (lt_of_block H_res_28.out)
  have HL33 := Lib.hid (lt_of_block H_rest_29.out)
  have HL34 := Lib.hid (lt_of_block H_node_30.out)
  have hC35 : Hid (Chg [W7.heap.size] W26 (W26.setCell ⟨W7.heap.size, 1, none⟩ (.int .i64 f))) := Lib.hid ((Chg.refl [W7.heap.size] W26).setCell (.inl (by simp)) (.int .i64 f))
  have H_res_36 : Hid ((W26.setCell ⟨W7.heap.size, 1, none⟩ (.int .i64 f)).heap[w.heap.size]? = some (.cells #[.int .u8 0, .int .i64 0, .slice none 0 0, .string { data := #[] }] 150)) := Lib.hid ((setOff 1 (.int .i64 f) (by have := HL12.out; have := HL13.out; have := HL32.out; have := HL33.out; have := HL34.out; omega)).trans H_res_28.out)
  have H_rest_37 : Hid ((W26.setCell ⟨W7.heap.size, 1, none⟩ (.int .i64 f)).heap[w.heap.size + 1]? = some (restO r3.s r3.ok)) := Lib.hid ((setOff 1 (.int .i64 f) (by have := HL12.out; have := HL13.out; have := HL32.out; have := HL33.out; have := HL34.out; omega)).trans H_rest_29.out)
  have H_node_38 : Hid ((W26.setCell ⟨W7.heap.size, 1, none⟩ (.int .i64 f)).heap[W7.heap.size]? = some (.cells #[.int .u8 k, .int .i64 f, .slice none 0 0, .string { data := #[] }] 150)) := Lib.hid (setAt H_node_30.out 1 (.int .i64 f))
  have HE39 := Lib.hid (HE31.out.after hC35.out (by intro k hk; have := HL12.out; have := HL13.out; have := HL32.out; have := HL33.out; have := HL34.out; simp only [List.mem_cons, List.mem_singleton, List.not_mem_nil, or_false] at hk ⊢; omega))
  generalize (W26.setCell ⟨W7.heap.size, 1, none⟩ (.int .i64 f)) = W40 at *
  have hpx : parseN p = (⟨k, f, [], []⟩ : NodeM) := by have h1 := H_h1.out; have h2 := H_h2.out; have h3 := H_h3.out; obtain ⟨k1, k2, k3⟩ := HK3.out; unfold parseN; simp only [h1, h2, k1, k2, k3, if_false, h3, or_self]
  have hcr : CRow W40 (w.heap.size + 1) (.slice none 0 0) [] := World.ownsRow_nil _ _ _ _
  have hsm : Small (⟨k, f, [], []⟩ : NodeM) := ⟨by simp, by simp, by simp⟩
  have H_hpx := Lib.hid hpx
  have H_hcr := Lib.hid hcr
  have H_hsm := Lib.hid hsm
  clear hpx hcr hsm
  go_at_call 124; refine (nput_any (⟨k, f, [], []⟩ : NodeM) _ _ (rowCells H_hcr.out) H_hsm.out).mono ?_; rintro e W41 ⟨rfl, hb⟩
  have hC42 := Lib.hid (Chg.of_below hb [])
  have H_res_43 := Lib.hid (hC42.out.get H_res_36.out (by simp))
  have H_rest_44 := Lib.hid (hC42.out.get H_rest_37.out (by simp))
  have H_node_45 := Lib.hid (hC42.out.get H_node_38.out (by simp))
  have H_crow_46 := Lib.hid (ownsRow_chg H_hcr.out hC42.out (by simp))
  have HE47 := Lib.hid (HE39.out.after hC42.out (by simp))
  clear hb
  rcases hp : putN (⟨k, f, [], []⟩ : NodeM) with ⟨q, z⟩
  have HP := Lib.hid hp
  clear hp
  simp only
  by_cases hz : z = 0
  ·
    subst hz
    by_cases hq : q = p
    ·
      subst hq
      have hpe : (q != q) = false := by simp
      have htk : takeN q = some (⟨k, f, [], []⟩ : NodeM) := by
        unfold takeN
        rw [if_neg (by rw [HSZ.out]; simp), H_hpx.out, HP.out, if_pos rfl]
      have HTK := Lib.hid htk
      clear htk
      have c_node_0 : W41.cell? ⟨W7.heap.size, 0, none⟩ = some (.int .u8 k) := cellAt H_node_45.out 0
      have c_node_1 : W41.cell? ⟨W7.heap.size, 1, none⟩ = some (.int .i64 f) := cellAt H_node_45.out 1
      have c_node_2 : W41.cell? ⟨W7.heap.size, 2, none⟩ = some (.slice none 0 0) := cellAt H_node_45.out 2
      have c_node_3 : W41.cell? ⟨W7.heap.size, 3, none⟩ = some (.string { data := #[] }) := cellAt H_node_45.out 3
      have c_res_0 : W41.cell? ⟨w.heap.size, 0, none⟩ = some (.int .u8 0) := cellAt H_res_43.out 0
      have c_res_1 : W41.cell? ⟨w.heap.size, 1, none⟩ = some (.int .i64 0) := cellAt H_res_43.out 1
      have c_res_2 : W41.cell? ⟨w.heap.size, 2, none⟩ = some (.slice none 0 0) := cellAt H_res_43.out 2
      have c_res_3 : W41.cell? ⟨w.heap.size, 3, none⟩ = some (.string { data := #[] }) := cellAt H_res_43.out 3
      have f_res_0 : W41.frozen? ⟨w.heap.size, 0, none⟩ = false := freeAt H_res_43.out 0
      have f_res_1 : W41.frozen? ⟨w.heap.size, 1, none⟩ = false := freeAt H_res_43.out 1
      have f_res_2 : W41.frozen? ⟨w.heap.size, 2, none⟩ = false := freeAt H_res_43.out 2
      have f_res_3 : W41.frozen? ⟨w.heap.size, 3, none⟩ = false := freeAt H_res_43.out 3
      go_wp2_with fail
      clear c_node_0 c_node_1 c_node_2 c_node_3 c_res_0 c_res_1 c_res_2 c_res_3 f_res_0 f_res_1 f_res_2 f_res_3
      have HL48 := Lib.hid (lt_of_block H_res_43.out)
      have HL49 := Lib.hid (lt_of_block H_rest_44.out)
      have HL50 := Lib.hid (lt_of_block H_node_45.out)
      have hC51 : Hid (Chg [w.heap.size] W41 ((((W41.setCell ⟨w.heap.size, 0, none⟩ (.int .u8 k)).setCell ⟨w.heap.size, 1, none⟩ (.int .i64 f)).setCell ⟨w.heap.size, 2, none⟩ (.slice none 0 0)).setCell ⟨w.heap.size, 3, none⟩ (vs []))) := Lib.hid (((((Chg.refl [w.heap.size] W41).setCell (.inl (by simp)) (.int .u8 k)).setCell (.inl (by simp)) (.int .i64 f)).setCell (.inl (by simp)) (.slice none 0 0)).setCell (.inl (by simp)) (vs []))
      have H_res_52 : Hid (((((W41.setCell ⟨w.heap.size, 0, none⟩ (.int .u8 k)).setCell ⟨w.heap.size, 1, none⟩ (.int .i64 f)).setCell ⟨w.heap.size, 2, none⟩ (.slice none 0 0)).setCell ⟨w.heap.size, 3, none⟩ (vs [])).heap[w.heap.size]? = some (.cells #[.int .u8 k, .int .i64 f, .slice none 0 0, vs []] 150)) := Lib.hid (setAt (setAt (setAt (setAt H_res_43.out 0 (.int .u8 k)) 1 (.int .i64 f)) 2 (.slice none 0 0)) 3 (vs []))
      have H_rest_53 : Hid (((((W41.setCell ⟨w.heap.size, 0, none⟩ (.int .u8 k)).setCell ⟨w.heap.size, 1, none⟩ (.int .i64 f)).setCell ⟨w.heap.size, 2, none⟩ (.slice none 0 0)).setCell ⟨w.heap.size, 3, none⟩ (vs [])).heap[w.heap.size + 1]? = some (restO r3.s r3.ok)) := Lib.hid ((setOff 3 (vs []) (by have := HL12.out; have := HL13.out; have := HL32.out; have := HL33.out; have := HL34.out; have := HL48.out; have := HL49.out; have := HL50.out; omega)).trans ((setOff 2 (.slice none 0 0) (by have := HL12.out; have := HL13.out; have := HL32.out; have := HL33.out; have := HL34.out; have := HL48.out; have := HL49.out; have := HL50.out; omega)).trans ((setOff 1 (.int .i64 f) (by have := HL12.out; have := HL13.out; have := HL32.out; have := HL33.out; have := HL34.out; have := HL48.out; have := HL49.out; have := HL50.out; omega)).trans ((setOff 0 (.int .u8 k) (by have := HL12.out; have := HL13.out; have := HL32.out; have := HL33.out; have := HL34.out; have := HL48.out; have := HL49.out; have := HL50.out; omega)).trans H_rest_44.out))))
      have H_node_54 : Hid (((((W41.setCell ⟨w.heap.size, 0, none⟩ (.int .u8 k)).setCell ⟨w.heap.size, 1, none⟩ (.int .i64 f)).setCell ⟨w.heap.size, 2, none⟩ (.slice none 0 0)).setCell ⟨w.heap.size, 3, none⟩ (vs [])).heap[W7.heap.size]? = some (.cells #[.int .u8 k, .int .i64 f, .slice none 0 0, .string { data := #[] }] 150)) := Lib.hid ((setOff 3 (vs []) (by have := HL12.out; have := HL13.out; have := HL32.out; have := HL33.out; have := HL34.out; have := HL48.out; have := HL49.out; have := HL50.out; omega)).trans ((setOff 2 (.slice none 0 0) (by have := HL12.out; have := HL13.out; have := HL32.out; have := HL33.out; have := HL34.out; have := HL48.out; have := HL49.out; have := HL50.out; omega)).trans ((setOff 1 (.int .i64 f) (by have := HL12.out; have := HL13.out; have := HL32.out; have := HL33.out; have := HL34.out; have := HL48.out; have := HL49.out; have := HL50.out; omega)).trans ((setOff 0 (.int .u8 k) (by have := HL12.out; have := HL13.out; have := HL32.out; have := HL33.out; have := HL34.out; have := HL48.out; have := HL49.out; have := HL50.out; omega)).trans H_node_45.out))))
      have H_crow_55 := Lib.hid (ownsRow_chg H_crow_46.out hC51.out (by intro k hk; have := HL12.out; have := HL13.out; have := HL32.out; have := HL33.out; have := HL34.out; have := HL48.out; have := HL49.out; have := HL50.out; simp only [List.mem_cons, List.mem_singleton, List.not_mem_nil, or_false] at hk; omega))
      have HE56 := Lib.hid (HE47.out.after hC51.out (by intro k hk; have := HL12.out; have := HL13.out; have := HL32.out; have := HL33.out; have := HL34.out; have := HL48.out; have := HL49.out; have := HL50.out; simp only [List.mem_cons, List.mem_singleton, List.not_mem_nil, or_false] at hk ⊢; omega))
      generalize ((((W41.setCell ⟨w.heap.size, 0, none⟩ (.int .u8 k)).setCell ⟨w.heap.size, 1, none⟩ (.int .i64 f)).setCell ⟨w.heap.size, 2, none⟩ (.slice none 0 0)).setCell ⟨w.heap.size, 3, none⟩ (vs [])) = W57 at *
      have c_res_0 : W57.cell? ⟨w.heap.size, 0, none⟩ = some (.int .u8 k) := cellAt H_res_52.out 0
      have c_res_1 : W57.cell? ⟨w.heap.size, 1, none⟩ = some (.int .i64 f) := cellAt H_res_52.out 1
      have c_res_2 : W57.cell? ⟨w.heap.size, 2, none⟩ = some (.slice none 0 0) := cellAt H_res_52.out 2
      have c_res_3 : W57.cell? ⟨w.heap.size, 3, none⟩ = some (vs []) := cellAt H_res_52.out 3
      exact bodyPost_ret (v := .tuple #[.agg #[.int .u8 k, .int .i64 f, .slice none 0 0, vs []], .int .i64 0]) (by simp [results, Tryz.results123, go_sem, c_res_0, c_res_1, c_res_2, c_res_3]; try rfl) rfl (TakePost.mk (.slice none 0 0) (by rw [HTK.out]; rfl) (by rw [HTK.out]; exact ownsRow_low H_crow_55.out (Nat.le_succ _)) (HE56.out.to_below (Nat.le_refl _) (by simp)))
    ·
      have hpe : (q != p) = true := by simpa using hq
      have hpe2 : (q == p) = false := by simpa using hq
      have htk : takeN p = none := by
        unfold takeN
        rw [if_neg (by rw [HSZ.out]; simp), H_hpx.out, HP.out, if_neg (by simp [*])]
      have HTK := Lib.hid htk
      clear htk
      have c_res_0 : W41.cell? ⟨w.heap.size, 0, none⟩ = some (.int .u8 0) := cellAt H_res_43.out 0
      have c_res_1 : W41.cell? ⟨w.heap.size, 1, none⟩ = some (.int .i64 0) := cellAt H_res_43.out 1
      have c_res_2 : W41.cell? ⟨w.heap.size, 2, none⟩ = some (.slice none 0 0) := cellAt H_res_43.out 2
      have c_res_3 : W41.cell? ⟨w.heap.size, 3, none⟩ = some (.string { data := #[] }) := cellAt H_res_43.out 3
      have f_res_0 : W41.frozen? ⟨w.heap.size, 0, none⟩ = false := freeAt H_res_43.out 0
      have f_res_1 : W41.frozen? ⟨w.heap.size, 1, none⟩ = false := freeAt H_res_43.out 1
      have f_res_2 : W41.frozen? ⟨w.heap.size, 2, none⟩ = false := freeAt H_res_43.out 2
      have f_res_3 : W41.frozen? ⟨w.heap.size, 3, none⟩ = false := freeAt H_res_43.out 3
      go_wp2_with fail
      clear c_res_0 c_res_1 c_res_2 c_res_3 f_res_0 f_res_1 f_res_2 f_res_3
      have HL58 := Lib.hid (lt_of_block H_res_43.out)
      have HL59 := Lib.hid (lt_of_block H_rest_44.out)
      have HL60 := Lib.hid (lt_of_block H_node_45.out)
      have hC61 : Hid (Chg [w.heap.size] W41 ((((W41.setCell ⟨w.heap.size, 0, none⟩ (.int .u8 0)).setCell ⟨w.heap.size, 1, none⟩ (.int .i64 0)).setCell ⟨w.heap.size, 2, none⟩ (.slice none 0 0)).setCell ⟨w.heap.size, 3, none⟩ (.string { data := #[] }))) := Lib.hid (((((Chg.refl [w.heap.size] W41).setCell (.inl (by simp)) (.int .u8 0)).setCell (.inl (by simp)) (.int .i64 0)).setCell (.inl (by simp)) (.slice none 0 0)).setCell (.inl (by simp)) (.string { data := #[] }))
      have H_res_62 : Hid (((((W41.setCell ⟨w.heap.size, 0, none⟩ (.int .u8 0)).setCell ⟨w.heap.size, 1, none⟩ (.int .i64 0)).setCell ⟨w.heap.size, 2, none⟩ (.slice none 0 0)).setCell ⟨w.heap.size, 3, none⟩ (.string { data := #[] })).heap[w.heap.size]? = some (.cells #[.int .u8 0, .int .i64 0, .slice none 0 0, .string { data := #[] }] 150)) := Lib.hid (setAt (setAt (setAt (setAt H_res_43.out 0 (.int .u8 0)) 1 (.int .i64 0)) 2 (.slice none 0 0)) 3 (.string { data := #[] }))
      have H_rest_63 : Hid (((((W41.setCell ⟨w.heap.size, 0, none⟩ (.int .u8 0)).setCell ⟨w.heap.size, 1, none⟩ (.int .i64 0)).setCell ⟨w.heap.size, 2, none⟩ (.slice none 0 0)).setCell ⟨w.heap.size, 3, none⟩ (.string { data := #[] })).heap[w.heap.size + 1]? = some (restO r3.s r3.ok)) := Lib.hid ((setOff 3 (.string { data := #[] }) (by have := HL12.out; have := HL13.out; have := HL32.out; have := HL33.out; have := HL34.out; have := HL58.out; have := HL59.out; have := HL60.out; omega)).trans ((setOff 2 (.slice none 0 0) (by have := HL12.out; have := HL13.out; have := HL32.out; have := HL33.out; have := HL34.out; have := HL58.out; have := HL59.out; have := HL60.out; omega)).trans ((setOff 1 (.int .i64 0) (by have := HL12.out; have := HL13.out; have := HL32.out; have := HL33.out; have := HL34.out; have := HL58.out; have := HL59.out; have := HL60.out; omega)).trans ((setOff 0 (.int .u8 0) (by have := HL12.out; have := HL13.out; have := HL32.out; have := HL33.out; have := HL34.out; have := HL58.out; have := HL59.out; have := HL60.out; omega)).trans H_rest_44.out))))
      have H_node_64 : Hid (((((W41.setCell ⟨w.heap.size, 0, none⟩ (.int .u8 0)).setCell ⟨w.heap.size, 1, none⟩ (.int .i64 0)).setCell ⟨w.heap.size, 2, none⟩ (.slice none 0 0)).setCell ⟨w.heap.size, 3, none⟩ (.string { data := #[] })).heap[W7.heap.size]? = some (.cells #[.int .u8 k, .int .i64 f, .slice none 0 0, .string { data := #[] }] 150)) := Lib.hid ((setOff 3 (.string { data := #[] }) (by have := HL12.out; have := HL13.out; have := HL32.out; have := HL33.out; have := HL34.out; have := HL58.out; have := HL59.out; have := HL60.out; omega)).trans ((setOff 2 (.slice none 0 0) (by have := HL12.out; have := HL13.out; have := HL32.out; have := HL33.out; have := HL34.out; have := HL58.out; have := HL59.out; have := HL60.out; omega)).trans ((setOff 1 (.int .i64 0) (by have := HL12.out; have := HL13.out; have := HL32.out; have := HL33.out; have := HL34.out; have := HL58.out; have := HL59.out; have := HL60.out; omega)).trans ((setOff 0 (.int .u8 0) (by have := HL12.out; have := HL13.out; have := HL32.out; have := HL33.out; have := HL34.out; have := HL58.out; have := HL59.out; have := HL60.out; omega)).trans H_node_45.out))))
      have H_crow_65 := Lib.hid (ownsRow_chg H_crow_46.out hC61.out (by intro k hk; have := HL12.out; have := HL13.out; have := HL32.out; have := HL33.out; have := HL34.out; have := HL58.out; have := HL59.out; have := HL60.out; simp only [List.mem_cons, List.mem_singleton, List.not_mem_nil, or_false] at hk; omega))
      have HE66 := Lib.hid (HE47.out.after hC61.out (by intro k hk; have := HL12.out; have := HL13.out; have := HL32.out; have := HL33.out; have := HL34.out; have := HL58.out; have := HL59.out; have := HL60.out; simp only [List.mem_cons, List.mem_singleton, List.not_mem_nil, or_false] at hk ⊢; omega))
      generalize ((((W41.setCell ⟨w.heap.size, 0, none⟩ (.int .u8 0)).setCell ⟨w.heap.size, 1, none⟩ (.int .i64 0)).setCell ⟨w.heap.size, 2, none⟩ (.slice none 0 0)).setCell ⟨w.heap.size, 3, none⟩ (.string { data := #[] })) = W67 at *
      have c_res_0 : W67.cell? ⟨w.heap.size, 0, none⟩ = some (.int .u8 0) := cellAt H_res_62.out 0
      have c_res_1 : W67.cell? ⟨w.heap.size, 1, none⟩ = some (.int .i64 0) := cellAt H_res_62.out 1
      have c_res_2 : W67.cell? ⟨w.heap.size, 2, none⟩ = some (.slice none 0 0) := cellAt H_res_62.out 2
      have c_res_3 : W67.cell? ⟨w.heap.size, 3, none⟩ = some (.string { data := #[] }) := cellAt H_res_62.out 3
      exact bodyPost_ret (v := .tuple #[.agg #[.int .u8 0, .int .i64 0, .slice none 0 0, .string { data := #[] }], .int .i64 7]) (by simp [results, Tryz.results123, go_sem, c_res_0, c_res_1, c_res_2, c_res_3]; try rfl) rfl (TakePost.mk (.slice none 0 0) (by rw [HTK.out]; rfl) (by rw [HTK.out]; exact World.ownsRow_nil _ _ _ _) (HE66.out.to_below (Nat.le_refl _) (by simp)))
  ·
    have hz1 : (z == 0) = false := by simpa using hz
    have hz2 : (z != 0) = true := by simpa using hz
    have htk : takeN p = none := by
      unfold takeN
      rw [if_neg (by rw [HSZ.out]; simp), H_hpx.out, HP.out, if_neg (by simp [*])]
    have HTK := Lib.hid htk
    clear htk
    have c_res_0 : W41.cell? ⟨w.heap.size, 0, none⟩ = some (.int .u8 0) := cellAt H_res_43.out 0
    have c_res_1 : W41.cell? ⟨w.heap.size, 1, none⟩ = some (.int .i64 0) := cellAt H_res_43.out 1
    have c_res_2 : W41.cell? ⟨w.heap.size, 2, none⟩ = some (.slice none 0 0) := cellAt H_res_43.out 2
    have c_res_3 : W41.cell? ⟨w.heap.size, 3, none⟩ = some (.string { data := #[] }) := cellAt H_res_43.out 3
    have f_res_0 : W41.frozen? ⟨w.heap.size, 0, none⟩ = false := freeAt H_res_43.out 0
    have f_res_1 : W41.frozen? ⟨w.heap.size, 1, none⟩ = false := freeAt H_res_43.out 1
    have f_res_2 : W41.frozen? ⟨w.heap.size, 2, none⟩ = false := freeAt H_res_43.out 2
    have f_res_3 : W41.frozen? ⟨w.heap.size, 3, none⟩ = false := freeAt H_res_43.out 3
    go_wp2_with fail
    clear c_res_0 c_res_1 c_res_2 c_res_3 f_res_0 f_res_1 f_res_2 f_res_3
    have HL68 := Lib.hid (lt_of_block H_res_43.out)
    have HL69 := Lib.hid (lt_of_block H_rest_44.out)
    have HL70 := Lib.hid (lt_of_block H_node_45.out)
    have hC71 : Hid (Chg [w.heap.size] W41 ((((W41.setCell ⟨w.heap.size, 0, none⟩ (.int .u8 0)).setCell ⟨w.heap.size, 1, none⟩ (.int .i64 0)).setCell ⟨w.heap.size, 2, none⟩ (.slice none 0 0)).setCell ⟨w.heap.size, 3, none⟩ (.string { data := #[] }))) := Lib.hid (((((Chg.refl [w.heap.size] W41).setCell (.inl (by simp)) (.int .u8 0)).setCell (.inl (by simp)) (.int .i64 0)).setCell (.inl (by simp)) (.slice none 0 0)).setCell (.inl (by simp)) (.string { data := #[] }))
    have H_res_72 : Hid (((((W41.setCell ⟨w.heap.size, 0, none⟩ (.int .u8 0)).setCell ⟨w.heap.size, 1, none⟩ (.int .i64 0)).setCell ⟨w.heap.size, 2, none⟩ (.slice none 0 0)).setCell ⟨w.heap.size, 3, none⟩ (.string { data := #[] })).heap[w.heap.size]? = some (.cells #[.int .u8 0, .int .i64 0, .slice none 0 0, .string { data := #[] }] 150)) := Lib.hid (setAt (setAt (setAt (setAt H_res_43.out 0 (.int .u8 0)) 1 (.int .i64 0)) 2 (.slice none 0 0)) 3 (.string { data := #[] }))
    have H_rest_73 : Hid (((((W41.setCell ⟨w.heap.size, 0, none⟩ (.int .u8 0)).setCell ⟨w.heap.size, 1, none⟩ (.int .i64 0)).setCell ⟨w.heap.size, 2, none⟩ (.slice none 0 0)).setCell ⟨w.heap.size, 3, none⟩ (.string { data := #[] })).heap[w.heap.size + 1]? = some (restO r3.s r3.ok)) := Lib.hid ((setOff 3 (.string { data := #[] }) (by have := HL12.out; have := HL13.out; have := HL32.out; have := HL33.out; have := HL34.out; have := HL68.out; have := HL69.out; have := HL70.out; omega)).trans ((setOff 2 (.slice none 0 0) (by have := HL12.out; have := HL13.out; have := HL32.out; have := HL33.out; have := HL34.out; have := HL68.out; have := HL69.out; have := HL70.out; omega)).trans ((setOff 1 (.int .i64 0) (by have := HL12.out; have := HL13.out; have := HL32.out; have := HL33.out; have := HL34.out; have := HL68.out; have := HL69.out; have := HL70.out; omega)).trans ((setOff 0 (.int .u8 0) (by have := HL12.out; have := HL13.out; have := HL32.out; have := HL33.out; have := HL34.out; have := HL68.out; have := HL69.out; have := HL70.out; omega)).trans H_rest_44.out))))
    have H_node_74 : Hid (((((W41.setCell ⟨w.heap.size, 0, none⟩ (.int .u8 0)).setCell ⟨w.heap.size, 1, none⟩ (.int .i64 0)).setCell ⟨w.heap.size, 2, none⟩ (.slice none 0 0)).setCell ⟨w.heap.size, 3, none⟩ (.string { data := #[] })).heap[W7.heap.size]? = some (.cells #[.int .u8 k, .int .i64 f, .slice none 0 0, .string { data := #[] }] 150)) := Lib.hid ((setOff 3 (.string { data := #[] }) (by have := HL12.out; have := HL13.out; have := HL32.out; have := HL33.out; have := HL34.out; have := HL68.out; have := HL69.out; have := HL70.out; omega)).trans ((setOff 2 (.slice none 0 0) (by have := HL12.out; have := HL13.out; have := HL32.out; have := HL33.out; have := HL34.out; have := HL68.out; have := HL69.out; have := HL70.out; omega)).trans ((setOff 1 (.int .i64 0) (by have := HL12.out; have := HL13.out; have := HL32.out; have := HL33.out; have := HL34.out; have := HL68.out; have := HL69.out; have := HL70.out; omega)).trans ((setOff 0 (.int .u8 0) (by have := HL12.out; have := HL13.out; have := HL32.out; have := HL33.out; have := HL34.out; have := HL68.out; have := HL69.out; have := HL70.out; omega)).trans H_node_45.out))))
    have H_crow_75 := Lib.hid (ownsRow_chg H_crow_46.out hC71.out (by intro k hk; have := HL12.out; have := HL13.out; have := HL32.out; have := HL33.out; have := HL34.out; have := HL68.out; have := HL69.out; have := HL70.out; simp only [List.mem_cons, List.mem_singleton, List.not_mem_nil, or_false] at hk; omega))
    have HE76 := Lib.hid (HE47.out.after hC71.out (by intro k hk; have := HL12.out; have := HL13.out; have := HL32.out; have := HL33.out; have := HL34.out; have := HL68.out; have := HL69.out; have := HL70.out; simp only [List.mem_cons, List.mem_singleton, List.not_mem_nil, or_false] at hk ⊢; omega))
    generalize ((((W41.setCell ⟨w.heap.size, 0, none⟩ (.int .u8 0)).setCell ⟨w.heap.size, 1, none⟩ (.int .i64 0)).setCell ⟨w.heap.size, 2, none⟩ (.slice none 0 0)).setCell ⟨w.heap.size, 3, none⟩ (.string { data := #[] })) = W77 at *
    have c_res_0 : W77.cell? ⟨w.heap.size, 0, none⟩ = some (.int .u8 0) := cellAt H_res_72.out 0
    have c_res_1 : W77.cell? ⟨w.heap.size, 1, none⟩ = some (.int .i64 0) := cellAt H_res_72.out 1
    have c_res_2 : W77.cell? ⟨w.heap.size, 2, none⟩ = some (.slice none 0 0) := cellAt H_res_72.out 2
    have c_res_3 : W77.cell? ⟨w.heap.size, 3, none⟩ = some (.string { data := #[] }) := cellAt H_res_72.out 3
    exact bodyPost_ret (v := .tuple #[.agg #[.int .u8 0, .int .i64 0, .slice none 0 0, .string { data := #[] }], .int .i64 7]) (by simp [results, Tryz.results123, go_sem, c_res_0, c_res_1, c_res_2, c_res_3]; try rfl) rfl (TakePost.mk (.slice none 0 0) (by rw [HTK.out]; rfl) (by rw [HTK.out]; exact World.ownsRow_nil _ _ _ _) (HE76.out.to_below (Nat.le_refl _) (by simp)))

end Go.Proofs.YtobmnnihmbdfjaaGreat
