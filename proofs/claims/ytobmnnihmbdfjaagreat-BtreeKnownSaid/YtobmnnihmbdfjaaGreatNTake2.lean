/- Pages of trees: node.Take. -/
import Derived.Test.YtobmnnihmbdfjaaGreatCRows
import Derived.Test.YtobmnnihmbdfjaaGreatKeys
set_option linter.all false
namespace Go.Proofs.YtobmnnihmbdfjaaGreat
open Go.RowKit

set_option maxRecDepth 100000 in
set_option maxHeartbeats 8000000 in
theorem ntake_k2 (p : List UInt8) (hsz : p.length = 512) (hk : kindOf p = 2) (w : World) : Calls Tryz.prog 123 #[vs p] w (TakePost p w) := by
  obtain ⟨i0, hi0, hz0, hz1, hz2⟩ := info_parts info144
  have HK := Lib.hid hk
  clear hk
  go_enter Tryz.func123, Tryz.ntmps123
  go_wp2_with fail
  have HSZ := Lib.hid hsz
  clear hsz
  have HE1 := Lib.hid (Chg.refl [] w)
  have hC2 : Hid (Chg [] w ((w.alloc (.cells #[.int .u8 0, .int .i64 0, .slice none 0 0, .string { data := #[] }] 150)).alloc (restO p true))) := Lib.hid (((Chg.refl [] w).alloc (.cells #[.int .u8 0, .int .i64 0, .slice none 0 0, .string { data := #[] }] 150)).alloc (restO p true))
  have H_res_3 : Hid (((w.alloc (.cells #[.int .u8 0, .int .i64 0, .slice none 0 0, .string { data := #[] }] 150)).alloc (restO p true)).heap[w.heap.size]? = some (.cells #[.int .u8 0, .int .i64 0, .slice none 0 0, .string { data := #[] }] 150)) := Lib.hid (heapOld (heapNew (by simp [World.setCell]) (.cells #[.int .u8 0, .int .i64 0, .slice none 0 0, .string { data := #[] }] 150)) (restO p true))
  have H_rest_4 : Hid (((w.alloc (.cells #[.int .u8 0, .int .i64 0, .slice none 0 0, .string { data := #[] }] 150)).alloc (restO p true)).heap[w.heap.size + 1]? = some (restO p true)) := Lib.hid (heapNew (by simp [World.setCell]) (restO p true))
  have HE5 := Lib.hid (HE1.out.after hC2.out (by simp))
  generalize ((w.alloc (.cells #[.int .u8 0, .int .i64 0, .slice none 0 0, .string { data := #[] }] 150)).alloc (restO p true)) = W6 at *
  rcases h1 : rnum 1 ⟨p, true⟩ with ⟨k, r1⟩
  have Fh1 := rnum_facts h1 (by decide)
  simp only [show ((256 : Int) ^ (1 : Int).toNat) = 256 by decide] at Fh1
  obtain ⟨k0, k9, Fh1⟩ := Fh1
  have H_h1 := Lib.hid h1
  have H_Fh1 := Lib.hid Fh1
  clear h1 Fh1
  go_at_call 181; refine (rnum_any 1 (by decide) (by decide) _ _ _ H_h1.out _ _ (by have := HSZ.out; simp only; omega) H_rest_4.out).mono ?_; rintro e W7 ⟨rfl, hr, hc⟩
  have hC8 := Lib.hid hc
  have H_res_9 := Lib.hid (hC8.out.get H_res_3.out (by simp only [List.mem_cons, List.mem_singleton, List.not_mem_nil, or_false, not_or, not_false_eq_true]; omega))
  have H_rest_10 : Hid (W7.heap[w.heap.size + 1]? = some (restO r1.s r1.ok)) := Lib.hid hr
  have HE11 := Lib.hid (HE5.out.after hC8.out (by intro k hk; simp only [List.mem_cons, List.mem_singleton, List.not_mem_nil, or_false] at hk ⊢; omega))
  clear hc hr
  obtain rfl : k = 2 := by have := HK.out; rw [kindOf, H_h1.out] at this; exact this
  go_wp2_with fail
  have HL12 := Lib.hid (lt_of_block H_res_9.out)
  have HL13 := Lib.hid (lt_of_block H_rest_10.out)
  have hC14 : Hid (Chg [] W7 (W7.alloc (.cells #[.int .u8 2, .int .i64 0, .slice none 0 0, .string { data := #[] }] 150))) := Lib.hid ((Chg.refl [] W7).alloc (.cells #[.int .u8 2, .int .i64 0, .slice none 0 0, .string { data := #[] }] 150))
  have H_res_15 : Hid ((W7.alloc (.cells #[.int .u8 2, .int .i64 0, .slice none 0 0, .string { data := #[] }] 150)).heap[w.heap.size]? = some (.cells #[.int .u8 0, .int .i64 0, .slice none 0 0, .string { data := #[] }] 150)) := Lib.hid (heapOld H_res_9.out (.cells #[.int .u8 2, .int .i64 0, .slice none 0 0, .string { data := #[] }] 150))
  have H_rest_16 : Hid ((W7.alloc (.cells #[.int .u8 2, .int .i64 0, .slice none 0 0, .string { data := #[] }] 150)).heap[w.heap.size + 1]? = some (restO r1.s r1.ok)) := Lib.hid (heapOld H_rest_10.out (.cells #[.int .u8 2, .int .i64 0, .slice none 0 0, .string { data := #[] }] 150))
  have H_node_17 : Hid ((W7.alloc (.cells #[.int .u8 2, .int .i64 0, .slice none 0 0, .string { data := #[] }] 150)).heap[W7.heap.size]? = some (.cells #[.int .u8 2, .int .i64 0, .slice none 0 0, .string { data := #[] }] 150)) := Lib.hid (heapNew (by simp [World.setCell]) (.cells #[.int .u8 2, .int .i64 0, .slice none 0 0, .string { data := #[] }] 150))
  have HE18 := Lib.hid (HE11.out.after hC14.out (by simp))
  generalize (W7.alloc (.cells #[.int .u8 2, .int .i64 0, .slice none 0 0, .string { data := #[] }] 150)) = W19 at *
  rcases h2 : rnum 2 r1 with ⟨m, r2⟩
  have Fh2 := rnum_facts h2 (by decide)
  simp only [show ((256 : Int) ^ (2 : Int).toNat) = 65536 by decide] at Fh2
  obtain ⟨m0, m9, Fh2⟩ := Fh2
  have H_h2 := Lib.hid h2
  have H_Fh2 := Lib.hid Fh2
  clear h2 Fh2
  go_at_call 181; refine (rnum_any 2 (by decide) (by decide) _ _ _ H_h2.out _ _ (by have := H_Fh1.out; have := HSZ.out; first | omega | (simp only at *; omega)) H_rest_16.out).mono ?_; rintro e W20 ⟨rfl, hr, hc⟩
  have hC21 := Lib.hid hc
  have H_res_22 := Lib.hid (hC21.out.get H_res_15.out (by have := HL12.out; have := HL13.out; simp only [List.mem_cons, List.mem_singleton, List.not_mem_nil, or_false, not_or, not_false_eq_true]; omega))
  have H_rest_23 : Hid (W20.heap[w.heap.size + 1]? = some (restO r2.s r2.ok)) := Lib.hid hr
  have H_node_24 := Lib.hid (hC21.out.get H_node_17.out (by have := HL12.out; have := HL13.out; simp only [List.mem_cons, List.mem_singleton, List.not_mem_nil, or_false, not_or, not_false_eq_true]; omega))
  have HE25 := Lib.hid (HE18.out.after hC21.out (by intro k hk; have := HL12.out; have := HL13.out; simp only [List.mem_cons, List.mem_singleton, List.not_mem_nil, or_false] at hk ⊢; omega))
  clear hc hr
  have c_node_0 : W20.cell? ⟨W7.heap.size, 0, none⟩ = some (.int .u8 2) := cellAt H_node_24.out 0
  have c_node_1 : W20.cell? ⟨W7.heap.size, 1, none⟩ = some (.int .i64 0) := cellAt H_node_24.out 1
  have f_node_1 : W20.frozen? ⟨W7.heap.size, 1, none⟩ = false := freeAt H_node_24.out 1
  go_wp2_with fail
  clear c_node_0 c_node_1 f_node_1
  rcases h3 : rnum 4 r2 with ⟨f, r3⟩
  have Fh3 := rnum_facts h3 (by decide)
  simp only [show ((256 : Int) ^ (4 : Int).toNat) = 4294967296 by decide] at Fh3
  obtain ⟨f0, f9, Fh3⟩ := Fh3
  have H_h3 := Lib.hid h3
  have H_Fh3 := Lib.hid Fh3
  clear h3 Fh3
  go_at_call 181; refine (rnum_any 4 (by decide) (by decide) _ _ _ H_h3.out _ _ (by have := H_Fh1.out; have := H_Fh2.out; have := HSZ.out; first | omega | (simp only at *; omega)) H_rest_23.out).mono ?_; rintro e W26 ⟨rfl, hr, hc⟩
  have hC27 := Lib.hid hc
  have H_res_28 := Lib.hid (hC27.out.get H_res_22.out (by have := HL12.out; have := HL13.out; simp only [List.mem_cons, List.mem_singleton, List.not_mem_nil, or_false, not_or, not_false_eq_true]; omega))
  have H_rest_29 : Hid (W26.heap[w.heap.size + 1]? = some (restO r3.s r3.ok)) := Lib.hid hr
  have H_node_30 := Lib.hid (hC27.out.get H_node_24.out (by have := HL12.out; have := HL13.out; simp only [List.mem_cons, List.mem_singleton, List.not_mem_nil, or_false, not_or, not_false_eq_true]; omega))
  have HE31 := Lib.hid (HE25.out.after hC27.out (by intro k hk; have := HL12.out; have := HL13.out; simp only [List.mem_cons, List.mem_singleton, List.not_mem_nil, or_false] at hk ⊢; omega))
  clear hc hr
  have c_node_0 : W26.cell? ⟨W7.heap.size, 0, none⟩ = some (.int .u8 2) := cellAt H_node_30.out 0
  have c_node_1 : W26.cell? ⟨W7.heap.size, 1, none⟩ = some (.int .i64 0) := cellAt H_node_30.out 1
  have f_node_1 : W26.frozen? ⟨W7.heap.size, 1, none⟩ = false := freeAt H_node_30.out 1
  go_wp2_with fail
  clear c_node_0 c_node_1 f_node_1
  have HL32 := Lib.hid (lt_of_block H_res_28.out)
  have HL33 := Lib.hid (lt_of_block H_rest_29.out)
  have HL34 := Lib.hid (lt_of_block H_node_30.out)
  have hC35 : Hid (Chg [W7.heap.size] W26 (W26.setCell ⟨W7.heap.size, 1, none⟩ (.int .i64 f))) := Lib.hid ((Chg.refl [W7.heap.size] W26).setCell (.inl (by simp)) (.int .i64 f))
  have H_res_36 : Hid ((W26.setCell ⟨W7.heap.size, 1, none⟩ (.int .i64 f)).heap[w.heap.size]? = some (.cells #[.int .u8 0, .int .i64 0, .slice none 0 0, .string { data := #[] }] 150)) := Lib.hid ((setOff 1 (.int .i64 f) (by have := HL12.out; have := HL13.out; have := HL32.out; have := HL33.out; have := HL34.out; omega)).trans H_res_28.out)
  have H_rest_37 : Hid ((W26.setCell ⟨W7.heap.size, 1, none⟩ (.int .i64 f)).heap[w.heap.size + 1]? = some (restO r3.s r3.ok)) := Lib.hid ((setOff 1 (.int .i64 f) (by have := HL12.out; have := HL13.out; have := HL32.out; have := HL33.out; have := HL34.out; omega)).trans H_rest_29.out)
  have H_node_38 : Hid ((W26.setCell ⟨W7.heap.size, 1, none⟩ (.int .i64 f)).heap[W7.heap.size]? = some (.cells #[.int .u8 2, .int .i64 f, .slice none 0 0, .string { data := #[] }] 150)) := Lib.hid (setAt H_node_30.out 1 (.int .i64 f))
  have HE39 := Lib.hid (HE31.out.after hC35.out (by intro k hk; have := HL12.out; have := HL13.out; have := HL32.out; have := HL33.out; have := HL34.out; simp only [List.mem_cons, List.mem_singleton, List.not_mem_nil, or_false] at hk ⊢; omega))
  generalize (W26.setCell ⟨W7.heap.size, 1, none⟩ (.int .i64 f)) = W40 at *
  have HL41 := Lib.hid (lt_of_block H_res_36.out)
  have HL42 := Lib.hid (lt_of_block H_rest_37.out)
  have HL43 := Lib.hid (lt_of_block H_node_38.out)
  obtain ⟨R, hR⟩ : ∃ R, R = parseCells 2 m.toNat r3 [] := ⟨_, rfl⟩
  have H_hR := Lib.hid hR
  clear hR
  go_loopw [8] (fun i wr => ∃ (j : Nat) (v : Value) (r : RestM) (acc : List CellM), i = .int .i64 j ∧ (j : Int) ≤ m ∧ Hid (acc.length = j) ∧ Hid (parseCells 2 (m.toNat - j) r acc = R) ∧
      Hid ((r.ok = true → acc.length + r.s.length ≤ 512) ∧ acc.length ≤ 513 ∧ r.s.length ≤ 512) ∧ Hid (∀ c ∈ acc, c.key.length ≤ 1000000 ∧ c.loc.length ≤ 1000000) ∧ Hid (Chg [w.heap.size + 1, W7.heap.size] W40 wr) ∧
      Hid (wr.heap[w.heap.size + 1]? = some (restO r.s r.ok)) ∧ Hid (wr.heap[W7.heap.size]? = some (.cells #[.int .u8 2, .int .i64 f, v, .string { data := #[] }] 150)) ∧ Hid (CRow wr W40.heap.size v acc))
    (fun i _ => (m - intOf i).toNat)
  case atStart => exact ⟨0, _, r3, [], rfl, by omega, Lib.hid rfl, Lib.hid H_hR.out.symm, Lib.hid (by have := H_Fh1.out; have := H_Fh2.out; have := H_Fh3.out; have := HSZ.out; simp only [List.length_nil] at *; refine ⟨fun hk => ?_, ?_, ?_⟩ <;> grind), Lib.hid (by simp), Lib.hid (Chg.refl _ _), H_rest_37, H_node_38, Lib.hid (World.ownsRow_nil _ _ _ _)⟩
  case round =>
    obtain ⟨j, v, r, acc, rfl, hj, HAL, HPC, HBD, HSM, HCH, HRE, HNO, HRW⟩ := hrel
    obtain ⟨rs, rok⟩ := r
    cases rok with
    | false =>
      have H_res_44 := Lib.hid (HCH.out.get H_res_36.out (by have := HL12.out; have := HL13.out; have := HL32.out; have := HL33.out; have := HL34.out; have := HL41.out; have := HL42.out; have := HL43.out; simp only [List.mem_cons, List.mem_singleton, List.not_mem_nil, or_false, not_or, not_false_eq_true]; omega))
      have HRU : Hid (∀ g ∈ rowB v, g < wr.heap.size) := Lib.hid (rowB_lt HRW.out)
      have HCZ := Lib.hid HCH.out.size
      have HPE : Hid ((acc, (⟨rs, false⟩ : RestM)) = R) := Lib.hid (by rw [← HPC.out, parseCells_no _ _ _ _ rfl])
      by_cases hlt : (j : Int) < m
      ·
        obtain ⟨sa, scap, rfl⟩ := (rowCells HRW.out).slice
        have c_rest_1 : wr.cell? ⟨w.heap.size + 1, 1, none⟩ = some (.bool false) := cellAt HRE.out 1
        have c_node_0 : wr.cell? ⟨W7.heap.size, 0, none⟩ = some (.int .u8 2) := cellAt HNO.out 0
        have c_node_1 : wr.cell? ⟨W7.heap.size, 1, none⟩ = some (.int .i64 f) := cellAt HNO.out 1
        have c_node_2 : wr.cell? ⟨W7.heap.size, 2, none⟩ = some (.slice sa acc.length scap) := cellAt HNO.out 2
        have c_node_3 : wr.cell? ⟨W7.heap.size, 3, none⟩ = some (.string { data := #[] }) := cellAt HNO.out 3
        go_wp2_with fail
        clear c_rest_1 c_node_0 c_node_1 c_node_2 c_node_3
        have HEF := Lib.hid (HE39.out.after HCH.out (by intro k hk; have := HL12.out; have := HL13.out; have := HL32.out; have := HL33.out; have := HL34.out; have := HL41.out; have := HL42.out; have := HL43.out; have := HCZ.out; simp only [List.mem_cons, List.mem_singleton, List.not_mem_nil, or_false] at hk ⊢; omega))
        have hpx : parseN p = (⟨2, f, acc, []⟩ : NodeM) := by have h1 := H_h1.out; have h2 := H_h2.out; have h3 := H_h3.out; have hh : parseN p = ⟨2, f, (parseCells 2 m.toNat r3 []).1, []⟩ := (by unfold parseN; simp [h1, h2, h3]); rw [hh, ← H_hR.out, ← HPE.out]
        have hcr : CRow wr W40.heap.size (.slice sa acc.length scap) acc := HRW.out
        have hsm : Small (⟨2, f, acc, []⟩ : NodeM) := ⟨by have := HBD.out; simp only; omega, by simp, HSM.out⟩
        have H_hpx := Lib.hid hpx
        have H_hcr := Lib.hid hcr
        have H_hsm := Lib.hid hsm
        clear hpx hcr hsm
        go_at_call 124; refine (nput_any (⟨2, f, acc, []⟩ : NodeM) _ _ (rowCells H_hcr.out) H_hsm.out).mono ?_; rintro e W45 ⟨rfl, hb⟩
        have hC46 := Lib.hid (Chg.of_below hb [])
        have HZ47 := Lib.hid hC46.out.size
        have H_res_48 := Lib.hid (hC46.out.get H_res_44.out (by simp))
        have H_rest_49 := Lib.hid (hC46.out.get HRE.out (by simp))
        have H_node_50 := Lib.hid (hC46.out.get HNO.out (by simp))
        have H_crow_51 := Lib.hid (ownsRow_chg H_hcr.out hC46.out (by simp))
        have HE52 := Lib.hid (HEF.out.after hC46.out (by simp))
        clear hb
        rcases hp : putN (⟨2, f, acc, []⟩ : NodeM) with ⟨q, z⟩
        have HP := Lib.hid hp
        clear hp
        simp only
        by_cases hz : z = 0
        ·
          subst hz
          by_cases hq : q = p
          ·
            subst hq
            have hpe : (q != q) = false := by simp
            have htk : takeN q = some (⟨2, f, acc, []⟩ : NodeM) := by
              unfold takeN
              rw [if_neg (by rw [HSZ.out]; simp), H_hpx.out, HP.out, if_pos rfl]
            have HTK := Lib.hid htk
            clear htk
            have c_node_0 : W45.cell? ⟨W7.heap.size, 0, none⟩ = some (.int .u8 2) := cellAt H_node_50.out 0
            have c_node_1 : W45.cell? ⟨W7.heap.size, 1, none⟩ = some (.int .i64 f) := cellAt H_node_50.out 1
            have c_node_2 : W45.cell? ⟨W7.heap.size, 2, none⟩ = some (.slice sa acc.length scap) := cellAt H_node_50.out 2
            have c_node_3 : W45.cell? ⟨W7.heap.size, 3, none⟩ = some (.string { data := #[] }) := cellAt H_node_50.out 3
            have c_res_0 : W45.cell? ⟨w.heap.size, 0, none⟩ = some (.int .u8 0) := cellAt H_res_48.out 0
            have c_res_1 : W45.cell? ⟨w.heap.size, 1, none⟩ = some (.int .i64 0) := cellAt H_res_48.out 1
            have c_res_2 : W45.cell? ⟨w.heap.size, 2, none⟩ = some (.slice none 0 0) := cellAt H_res_48.out 2
            have c_res_3 : W45.cell? ⟨w.heap.size, 3, none⟩ = some (.string { data := #[] }) := cellAt H_res_48.out 3
            have f_res_0 : W45.frozen? ⟨w.heap.size, 0, none⟩ = false := freeAt H_res_48.out 0
            have f_res_1 : W45.frozen? ⟨w.heap.size, 1, none⟩ = false := freeAt H_res_48.out 1
            have f_res_2 : W45.frozen? ⟨w.heap.size, 2, none⟩ = false := freeAt H_res_48.out 2
            have f_res_3 : W45.frozen? ⟨w.heap.size, 3, none⟩ = false := freeAt H_res_48.out 3
            go_wp2_with fail
            clear c_node_0 c_node_1 c_node_2 c_node_3 c_res_0 c_res_1 c_res_2 c_res_3 f_res_0 f_res_1 f_res_2 f_res_3
            have HL53 := Lib.hid (lt_of_block H_res_48.out)
            have HL54 := Lib.hid (lt_of_block H_rest_49.out)
            have HL55 := Lib.hid (lt_of_block H_node_50.out)
            have hC56 : Hid (Chg [w.heap.size] W45 ((((W45.setCell ⟨w.heap.size, 0, none⟩ (.int .u8 2)).setCell ⟨w.heap.size, 1, none⟩ (.int .i64 f)).setCell ⟨w.heap.size, 2, none⟩ (.slice sa acc.length scap)).setCell ⟨w.heap.size, 3, none⟩ (vs []))) := Lib.hid (((((Chg.refl [w.heap.size] W45).setCell (.inl (by simp)) (.int .u8 2)).setCell (.inl (by simp)) (.int .i64 f)).setCell (.inl (by simp)) (.slice sa acc.length scap)).setCell (.inl (by simp)) (vs []))
            have HZ57 := Lib.hid hC56.out.size
            have H_res_58 : Hid (((((W45.setCell ⟨w.heap.size, 0, none⟩ (.int .u8 2)).setCell ⟨w.heap.size, 1, none⟩ (.int .i64 f)).setCell ⟨w.heap.size, 2, none⟩ (.slice sa acc.length scap)).setCell ⟨w.heap.size, 3, none⟩ (vs [])).heap[w.heap.size]? = some (.cells #[.int .u8 2, .int .i64 f, .slice sa acc.length scap, vs []] 150)) := Lib.hid (setAt (setAt (setAt (setAt H_res_48.out 0 (.int .u8 2)) 1 (.int .i64 f)) 2 (.slice sa acc.length scap)) 3 (vs []))
            have H_rest_59 : Hid (((((W45.setCell ⟨w.heap.size, 0, none⟩ (.int .u8 2)).setCell ⟨w.heap.size, 1, none⟩ (.int .i64 f)).setCell ⟨w.heap.size, 2, none⟩ (.slice sa acc.length scap)).setCell ⟨w.heap.size, 3, none⟩ (vs [])).heap[w.heap.size + 1]? = some (restO rs false)) := Lib.hid ((setOff 3 (vs []) (by have := HL12.out; have := HL13.out; have := HL32.out; have := HL33.out; have := HL34.out; have := HL41.out; have := HL42.out; have := HL43.out; have := HCZ.out; have := HZ47.out; have := HL53.out; have := HL54.out; have := HL55.out; omega)).trans ((setOff 2 (.slice sa acc.length scap) (by have := HL12.out; have := HL13.out; have := HL32.out; have := HL33.out; have := HL34.out; have := HL41.out; have := HL42.out; have := HL43.out; have := HCZ.out; have := HZ47.out; have := HL53.out; have := HL54.out; have := HL55.out; omega)).trans ((setOff 1 (.int .i64 f) (by have := HL12.out; have := HL13.out; have := HL32.out; have := HL33.out; have := HL34.out; have := HL41.out; have := HL42.out; have := HL43.out; have := HCZ.out; have := HZ47.out; have := HL53.out; have := HL54.out; have := HL55.out; omega)).trans ((setOff 0 (.int .u8 2) (by have := HL12.out; have := HL13.out; have := HL32.out; have := HL33.out; have := HL34.out; have := HL41.out; have := HL42.out; have := HL43.out; have := HCZ.out; have := HZ47.out; have := HL53.out; have := HL54.out; have := HL55.out; omega)).trans H_rest_49.out))))
            have H_node_60 : Hid (((((W45.setCell ⟨w.heap.size, 0, none⟩ (.int .u8 2)).setCell ⟨w.heap.size, 1, none⟩ (.int .i64 f)).setCell ⟨w.heap.size, 2, none⟩ (.slice sa acc.length scap)).setCell ⟨w.heap.size, 3, none⟩ (vs [])).heap[W7.heap.size]? = some (.cells #[.int .u8 2, .int .i64 f, .slice sa acc.length scap, .string { data := #[] }] 150)) := Lib.hid ((setOff 3 (vs []) (by have := HL12.out; have := HL13.out; have := HL32.out; have := HL33.out; have := HL34.out; have := HL41.out; have := HL42.out; have := HL43.out; have := HCZ.out; have := HZ47.out; have := HL53.out; have := HL54.out; have := HL55.out; omega)).trans ((setOff 2 (.slice sa acc.length scap) (by have := HL12.out; have := HL13.out; have := HL32.out; have := HL33.out; have := HL34.out; have := HL41.out; have := HL42.out; have := HL43.out; have := HCZ.out; have := HZ47.out; have := HL53.out; have := HL54.out; have := HL55.out; omega)).trans ((setOff 1 (.int .i64 f) (by have := HL12.out; have := HL13.out; have := HL32.out; have := HL33.out; have := HL34.out; have := HL41.out; have := HL42.out; have := HL43.out; have := HCZ.out; have := HZ47.out; have := HL53.out; have := HL54.out; have := HL55.out; omega)).trans ((setOff 0 (.int .u8 2) (by have := HL12.out; have := HL13.out; have := HL32.out; have := HL33.out; have := HL34.out; have := HL41.out; have := HL42.out; have := HL43.out; have := HCZ.out; have := HZ47.out; have := HL53.out; have := HL54.out; have := HL55.out; omega)).trans H_node_50.out))))
            have H_crow_61 := Lib.hid (ownsRow_chg H_crow_51.out hC56.out (by intro k hk; have := HL12.out; have := HL13.out; have := HL32.out; have := HL33.out; have := HL34.out; have := HL41.out; have := HL42.out; have := HL43.out; have := HCZ.out; have := HZ47.out; have := HL53.out; have := HL54.out; have := HL55.out; have := HZ57.out; simp only [List.mem_cons, List.mem_singleton, List.not_mem_nil, or_false] at hk; omega))
            have HE62 := Lib.hid (HE52.out.after hC56.out (by intro k hk; have := HL12.out; have := HL13.out; have := HL32.out; have := HL33.out; have := HL34.out; have := HL41.out; have := HL42.out; have := HL43.out; have := HCZ.out; have := HZ47.out; have := HL53.out; have := HL54.out; have := HL55.out; have := HZ57.out; simp only [List.mem_cons, List.mem_singleton, List.not_mem_nil, or_false] at hk ⊢; omega))
            generalize ((((W45.setCell ⟨w.heap.size, 0, none⟩ (.int .u8 2)).setCell ⟨w.heap.size, 1, none⟩ (.int .i64 f)).setCell ⟨w.heap.size, 2, none⟩ (.slice sa acc.length scap)).setCell ⟨w.heap.size, 3, none⟩ (vs [])) = W63 at *
            have c_res_0 : W63.cell? ⟨w.heap.size, 0, none⟩ = some (.int .u8 2) := cellAt H_res_58.out 0
            have c_res_1 : W63.cell? ⟨w.heap.size, 1, none⟩ = some (.int .i64 f) := cellAt H_res_58.out 1
            have c_res_2 : W63.cell? ⟨w.heap.size, 2, none⟩ = some (.slice sa acc.length scap) := cellAt H_res_58.out 2
            have c_res_3 : W63.cell? ⟨w.heap.size, 3, none⟩ = some (vs []) := cellAt H_res_58.out 3
            exact bodyPost_ret (v := .tuple #[.agg #[.int .u8 2, .int .i64 f, .slice sa acc.length scap, vs []], .int .i64 0]) (by simp [results, Tryz.results123, go_sem, c_res_0, c_res_1, c_res_2, c_res_3]; try rfl) rfl (TakePost.mk (.slice sa acc.length scap) (by rw [HTK.out]; rfl) (by rw [HTK.out]; exact ownsRow_low H_crow_61.out (by have := HL12.out; have := HL13.out; have := HL32.out; have := HL33.out; have := HL34.out; have := HL41.out; have := HL42.out; have := HL43.out; have := HCZ.out; have := HE39.out.size; omega)) (HE62.out.to_below (Nat.le_refl _) (by simp)))
          ·
            have hpe : (q != p) = true := by simpa using hq
            have hpe2 : (q == p) = false := by simpa using hq
            have htk : takeN p = none := by
              unfold takeN
              rw [if_neg (by rw [HSZ.out]; simp), H_hpx.out, HP.out, if_neg (by simp [*])]
            have HTK := Lib.hid htk
            clear htk
            have c_res_0 : W45.cell? ⟨w.heap.size, 0, none⟩ = some (.int .u8 0) := cellAt H_res_48.out 0
            have c_res_1 : W45.cell? ⟨w.heap.size, 1, none⟩ = some (.int .i64 0) := cellAt H_res_48.out 1
            have c_res_2 : W45.cell? ⟨w.heap.size, 2, none⟩ = some (.slice none 0 0) := cellAt H_res_48.out 2
            have c_res_3 : W45.cell? ⟨w.heap.size, 3, none⟩ = some (.string { data := #[] }) := cellAt H_res_48.out 3
            have f_res_0 : W45.frozen? ⟨w.heap.size, 0, none⟩ = false := freeAt H_res_48.out 0
            have f_res_1 : W45.frozen? ⟨w.heap.size, 1, none⟩ = false := freeAt H_res_48.out 1
            have f_res_2 : W45.frozen? ⟨w.heap.size, 2, none⟩ = false := freeAt H_res_48.out 2
            have f_res_3 : W45.frozen? ⟨w.heap.size, 3, none⟩ = false := freeAt H_res_48.out 3
            go_wp2_with fail
            clear c_res_0 c_res_1 c_res_2 c_res_3 f_res_0 f_res_1 f_res_2 f_res_3
            have HL64 := Lib.hid (lt_of_block H_res_48.out)
            have HL65 := Lib.hid (lt_of_block H_rest_49.out)
            have HL66 := Lib.hid (lt_of_block H_node_50.out)
            have hC67 : Hid (Chg [w.heap.size] W45 ((((W45.setCell ⟨w.heap.size, 0, none⟩ (.int .u8 0)).setCell ⟨w.heap.size, 1, none⟩ (.int .i64 0)).setCell ⟨w.heap.size, 2, none⟩ (.slice none 0 0)).setCell ⟨w.heap.size, 3, none⟩ (.string { data := #[] }))) := Lib.hid (((((Chg.refl [w.heap.size] W45).setCell (.inl (by simp)) (.int .u8 0)).setCell (.inl (by simp)) (.int .i64 0)).setCell (.inl (by simp)) (.slice none 0 0)).setCell (.inl (by simp)) (.string { data := #[] }))
            have HZ68 := Lib.hid hC67.out.size
            have H_res_69 : Hid (((((W45.setCell ⟨w.heap.size, 0, none⟩ (.int .u8 0)).setCell ⟨w.heap.size, 1, none⟩ (.int .i64 0)).setCell ⟨w.heap.size, 2, none⟩ (.slice none 0 0)).setCell ⟨w.heap.size, 3, none⟩ (.string { data := #[] })).heap[w.heap.size]? = some (.cells #[.int .u8 0, .int .i64 0, .slice none 0 0, .string { data := #[] }] 150)) := Lib.hid (setAt (setAt (setAt (setAt H_res_48.out 0 (.int .u8 0)) 1 (.int .i64 0)) 2 (.slice none 0 0)) 3 (.string { data := #[] }))
            have H_rest_70 : Hid (((((W45.setCell ⟨w.heap.size, 0, none⟩ (.int .u8 0)).setCell ⟨w.heap.size, 1, none⟩ (.int .i64 0)).setCell ⟨w.heap.size, 2, none⟩ (.slice none 0 0)).setCell ⟨w.heap.size, 3, none⟩ (.string { data := #[] })).heap[w.heap.size + 1]? = some (restO rs false)) := Lib.hid ((setOff 3 (.string { data := #[] }) (by have := HL12.out; have := HL13.out; have := HL32.out; have := HL33.out; have := HL34.out; have := HL41.out; have := HL42.out; have := HL43.out; have := HCZ.out; have := HZ47.out; have := HL64.out; have := HL65.out; have := HL66.out; omega)).trans ((setOff 2 (.slice none 0 0) (by have := HL12.out; have := HL13.out; have := HL32.out; have := HL33.out; have := HL34.out; have := HL41.out; have := HL42.out; have := HL43.out; have := HCZ.out; have := HZ47.out; have := HL64.out; have := HL65.out; have := HL66.out; omega)).trans ((setOff 1 (.int .i64 0) (by have := HL12.out; have := HL13.out; have := HL32.out; have := HL33.out; have := HL34.out; have := HL41.out; have := HL42.out; have := HL43.out; have := HCZ.out; have := HZ47.out; have := HL64.out; have := HL65.out; have := HL66.out; omega)).trans ((setOff 0 (.int .u8 0) (by have := HL12.out; have := HL13.out; have := HL32.out; have := HL33.out; have := HL34.out; have := HL41.out; have := HL42.out; have := HL43.out; have := HCZ.out; have := HZ47.out; have := HL64.out; have := HL65.out; have := HL66.out; omega)).trans H_rest_49.out))))
            have H_node_71 : Hid (((((W45.setCell ⟨w.heap.size, 0, none⟩ (.int .u8 0)).setCell ⟨w.heap.size, 1, none⟩ (.int .i64 0)).setCell ⟨w.heap.size, 2, none⟩ (.slice none 0 0)).setCell ⟨w.heap.size, 3, none⟩ (.string { data := #[] })).heap[W7.heap.size]? = some (.cells #[.int .u8 2, .int .i64 f, .slice sa acc.length scap, .string { data := #[] }] 150)) := Lib.hid ((setOff 3 (.string { data := #[] }) (by have := HL12.out; have := HL13.out; have := HL32.out; have := HL33.out; have := HL34.out; have := HL41.out; have := HL42.out; have := HL43.out; have := HCZ.out; have := HZ47.out; have := HL64.out; have := HL65.out; have := HL66.out; omega)).trans ((setOff 2 (.slice none 0 0) (by have := HL12.out; have := HL13.out; have := HL32.out; have := HL33.out; have := HL34.out; have := HL41.out; have := HL42.out; have := HL43.out; have := HCZ.out; have := HZ47.out; have := HL64.out; have := HL65.out; have := HL66.out; omega)).trans ((setOff 1 (.int .i64 0) (by have := HL12.out; have := HL13.out; have := HL32.out; have := HL33.out; have := HL34.out; have := HL41.out; have := HL42.out; have := HL43.out; have := HCZ.out; have := HZ47.out; have := HL64.out; have := HL65.out; have := HL66.out; omega)).trans ((setOff 0 (.int .u8 0) (by have := HL12.out; have := HL13.out; have := HL32.out; have := HL33.out; have := HL34.out; have := HL41.out; have := HL42.out; have := HL43.out; have := HCZ.out; have := HZ47.out; have := HL64.out; have := HL65.out; have := HL66.out; omega)).trans H_node_50.out))))
            have H_crow_72 := Lib.hid (ownsRow_chg H_crow_51.out hC67.out (by intro k hk; have := HL12.out; have := HL13.out; have := HL32.out; have := HL33.out; have := HL34.out; have := HL41.out; have := HL42.out; have := HL43.out; have := HCZ.out; have := HZ47.out; have := HL64.out; have := HL65.out; have := HL66.out; have := HZ68.out; simp only [List.mem_cons, List.mem_singleton, List.not_mem_nil, or_false] at hk; omega))
            have HE73 := Lib.hid (HE52.out.after hC67.out (by intro k hk; have := HL12.out; have := HL13.out; have := HL32.out; have := HL33.out; have := HL34.out; have := HL41.out; have := HL42.out; have := HL43.out; have := HCZ.out; have := HZ47.out; have := HL64.out; have := HL65.out; have := HL66.out; have := HZ68.out; simp only [List.mem_cons, List.mem_singleton, List.not_mem_nil, or_false] at hk ⊢; omega))
            generalize ((((W45.setCell ⟨w.heap.size, 0, none⟩ (.int .u8 0)).setCell ⟨w.heap.size, 1, none⟩ (.int .i64 0)).setCell ⟨w.heap.size, 2, none⟩ (.slice none 0 0)).setCell ⟨w.heap.size, 3, none⟩ (.string { data := #[] })) = W74 at *
            have c_res_0 : W74.cell? ⟨w.heap.size, 0, none⟩ = some (.int .u8 0) := cellAt H_res_69.out 0
            have c_res_1 : W74.cell? ⟨w.heap.size, 1, none⟩ = some (.int .i64 0) := cellAt H_res_69.out 1
            have c_res_2 : W74.cell? ⟨w.heap.size, 2, none⟩ = some (.slice none 0 0) := cellAt H_res_69.out 2
            have c_res_3 : W74.cell? ⟨w.heap.size, 3, none⟩ = some (.string { data := #[] }) := cellAt H_res_69.out 3
            exact bodyPost_ret (v := .tuple #[.agg #[.int .u8 0, .int .i64 0, .slice none 0 0, .string { data := #[] }], .int .i64 7]) (by simp [results, Tryz.results123, go_sem, c_res_0, c_res_1, c_res_2, c_res_3]; try rfl) rfl (TakePost.mk (.slice none 0 0) (by rw [HTK.out]; rfl) (by rw [HTK.out]; exact World.ownsRow_nil _ _ _ _) (HE73.out.to_below (Nat.le_refl _) (by simp)))
        ·
          have hz1 : (z == 0) = false := by simpa using hz
          have hz2 : (z != 0) = true := by simpa using hz
          have htk : takeN p = none := by
            unfold takeN
            rw [if_neg (by rw [HSZ.out]; simp), H_hpx.out, HP.out, if_neg (by simp [*])]
          have HTK := Lib.hid htk
          clear htk
          have c_res_0 : W45.cell? ⟨w.heap.size, 0, none⟩ = some (.int .u8 0) := cellAt H_res_48.out 0
          have c_res_1 : W45.cell? ⟨w.heap.size, 1, none⟩ = some (.int .i64 0) := cellAt H_res_48.out 1
          have c_res_2 : W45.cell? ⟨w.heap.size, 2, none⟩ = some (.slice none 0 0) := cellAt H_res_48.out 2
          have c_res_3 : W45.cell? ⟨w.heap.size, 3, none⟩ = some (.string { data := #[] }) := cellAt H_res_48.out 3
          have f_res_0 : W45.frozen? ⟨w.heap.size, 0, none⟩ = false := freeAt H_res_48.out 0
          have f_res_1 : W45.frozen? ⟨w.heap.size, 1, none⟩ = false := freeAt H_res_48.out 1
          have f_res_2 : W45.frozen? ⟨w.heap.size, 2, none⟩ = false := freeAt H_res_48.out 2
          have f_res_3 : W45.frozen? ⟨w.heap.size, 3, none⟩ = false := freeAt H_res_48.out 3
          go_wp2_with fail
          clear c_res_0 c_res_1 c_res_2 c_res_3 f_res_0 f_res_1 f_res_2 f_res_3
          have HL75 := Lib.hid (lt_of_block H_res_48.out)
          have HL76 := Lib.hid (lt_of_block H_rest_49.out)
          have HL77 := Lib.hid (lt_of_block H_node_50.out)
          have hC78 : Hid (Chg [w.heap.size] W45 ((((W45.setCell ⟨w.heap.size, 0, none⟩ (.int .u8 0)).setCell ⟨w.heap.size, 1, none⟩ (.int .i64 0)).setCell ⟨w.heap.size, 2, none⟩ (.slice none 0 0)).setCell ⟨w.heap.size, 3, none⟩ (.string { data := #[] }))) := Lib.hid (((((Chg.refl [w.heap.size] W45).setCell (.inl (by simp)) (.int .u8 0)).setCell (.inl (by simp)) (.int .i64 0)).setCell (.inl (by simp)) (.slice none 0 0)).setCell (.inl (by simp)) (.string { data := #[] }))
          have HZ79 := Lib.hid hC78.out.size
          have H_res_80 : Hid (((((W45.setCell ⟨w.heap.size, 0, none⟩ (.int .u8 0)).setCell ⟨w.heap.size, 1, none⟩ (.int .i64 0)).setCell ⟨w.heap.size, 2, none⟩ (.slice none 0 0)).setCell ⟨w.heap.size, 3, none⟩ (.string { data := #[] })).heap[w.heap.size]? = some (.cells #[.int .u8 0, .int .i64 0, .slice none 0 0, .string { data := #[] }] 150)) := Lib.hid (setAt (setAt (setAt (setAt H_res_48.out 0 (.int .u8 0)) 1 (.int .i64 0)) 2 (.slice none 0 0)) 3 (.string { data := #[] }))
          have H_rest_81 : Hid (((((W45.setCell ⟨w.heap.size, 0, none⟩ (.int .u8 0)).setCell ⟨w.heap.size, 1, none⟩ (.int .i64 0)).setCell ⟨w.heap.size, 2, none⟩ (.slice none 0 0)).setCell ⟨w.heap.size, 3, none⟩ (.string { data := #[] })).heap[w.heap.size + 1]? = some (restO rs false)) := Lib.hid ((setOff 3 (.string { data := #[] }) (by have := HL12.out; have := HL13.out; have := HL32.out; have := HL33.out; have := HL34.out; have := HL41.out; have := HL42.out; have := HL43.out; have := HCZ.out; have := HZ47.out; have := HL75.out; have := HL76.out; have := HL77.out; omega)).trans ((setOff 2 (.slice none 0 0) (by have := HL12.out; have := HL13.out; have := HL32.out; have := HL33.out; have := HL34.out; have := HL41.out; have := HL42.out; have := HL43.out; have := HCZ.out; have := HZ47.out; have := HL75.out; have := HL76.out; have := HL77.out; omega)).trans ((setOff 1 (.int .i64 0) (by have := HL12.out; have := HL13.out; have := HL32.out; have := HL33.out; have := HL34.out; have := HL41.out; have := HL42.out; have := HL43.out; have := HCZ.out; have := HZ47.out; have := HL75.out; have := HL76.out; have := HL77.out; omega)).trans ((setOff 0 (.int .u8 0) (by have := HL12.out; have := HL13.out; have := HL32.out; have := HL33.out; have := HL34.out; have := HL41.out; have := HL42.out; have := HL43.out; have := HCZ.out; have := HZ47.out; have := HL75.out; have := HL76.out; have := HL77.out; omega)).trans H_rest_49.out))))
          have H_node_82 : Hid (((((W45.setCell ⟨w.heap.size, 0, none⟩ (.int .u8 0)).setCell ⟨w.heap.size, 1, none⟩ (.int .i64 0)).setCell ⟨w.heap.size, 2, none⟩ (.slice none 0 0)).setCell ⟨w.heap.size, 3, none⟩ (.string { data := #[] })).heap[W7.heap.size]? = some (.cells #[.int .u8 2, .int .i64 f, .slice sa acc.length scap, .string { data := #[] }] 150)) := Lib.hid ((setOff 3 (.string { data := #[] }) (by have := HL12.out; have := HL13.out; have := HL32.out; have := HL33.out; have := HL34.out; have := HL41.out; have := HL42.out; have := HL43.out; have := HCZ.out; have := HZ47.out; have := HL75.out; have := HL76.out; have := HL77.out; omega)).trans ((setOff 2 (.slice none 0 0) (by have := HL12.out; have := HL13.out; have := HL32.out; have := HL33.out; have := HL34.out; have := HL41.out; have := HL42.out; have := HL43.out; have := HCZ.out; have := HZ47.out; have := HL75.out; have := HL76.out; have := HL77.out; omega)).trans ((setOff 1 (.int .i64 0) (by have := HL12.out; have := HL13.out; have := HL32.out; have := HL33.out; have := HL34.out; have := HL41.out; have := HL42.out; have := HL43.out; have := HCZ.out; have := HZ47.out; have := HL75.out; have := HL76.out; have := HL77.out; omega)).trans ((setOff 0 (.int .u8 0) (by have := HL12.out; have := HL13.out; have := HL32.out; have := HL33.out; have := HL34.out; have := HL41.out; have := HL42.out; have := HL43.out; have := HCZ.out; have := HZ47.out; have := HL75.out; have := HL76.out; have := HL77.out; omega)).trans H_node_50.out))))
          have H_crow_83 := Lib.hid (ownsRow_chg H_crow_51.out hC78.out (by intro k hk; have := HL12.out; have := HL13.out; have := HL32.out; have := HL33.out; have := HL34.out; have := HL41.out; have := HL42.out; have := HL43.out; have := HCZ.out; have := HZ47.out; have := HL75.out; have := HL76.out; have := HL77.out; have := HZ79.out; simp only [List.mem_cons, List.mem_singleton, List.not_mem_nil, or_false] at hk; omega))
          have HE84 := Lib.hid (HE52.out.after hC78.out (by intro k hk; have := HL12.out; have := HL13.out; have := HL32.out; have := HL33.out; have := HL34.out; have := HL41.out; have := HL42.out; have := HL43.out; have := HCZ.out; have := HZ47.out; have := HL75.out; have := HL76.out; have := HL77.out; have := HZ79.out; simp only [List.mem_cons, List.mem_singleton, List.not_mem_nil, or_false] at hk ⊢; omega))
          generalize ((((W45.setCell ⟨w.heap.size, 0, none⟩ (.int .u8 0)).setCell ⟨w.heap.size, 1, none⟩ (.int .i64 0)).setCell ⟨w.heap.size, 2, none⟩ (.slice none 0 0)).setCell ⟨w.heap.size, 3, none⟩ (.string { data := #[] })) = W85 at *
          have c_res_0 : W85.cell? ⟨w.heap.size, 0, none⟩ = some (.int .u8 0) := cellAt H_res_80.out 0
          have c_res_1 : W85.cell? ⟨w.heap.size, 1, none⟩ = some (.int .i64 0) := cellAt H_res_80.out 1
          have c_res_2 : W85.cell? ⟨w.heap.size, 2, none⟩ = some (.slice none 0 0) := cellAt H_res_80.out 2
          have c_res_3 : W85.cell? ⟨w.heap.size, 3, none⟩ = some (.string { data := #[] }) := cellAt H_res_80.out 3
          exact bodyPost_ret (v := .tuple #[.agg #[.int .u8 0, .int .i64 0, .slice none 0 0, .string { data := #[] }], .int .i64 7]) (by simp [results, Tryz.results123, go_sem, c_res_0, c_res_1, c_res_2, c_res_3]; try rfl) rfl (TakePost.mk (.slice none 0 0) (by rw [HTK.out]; rfl) (by rw [HTK.out]; exact World.ownsRow_nil _ _ _ _) (HE84.out.to_below (Nat.le_refl _) (by simp)))
      ·
        obtain ⟨sa, scap, rfl⟩ := (rowCells HRW.out).slice
        have c_rest_1 : wr.cell? ⟨w.heap.size + 1, 1, none⟩ = some (.bool false) := cellAt HRE.out 1
        have c_node_0 : wr.cell? ⟨W7.heap.size, 0, none⟩ = some (.int .u8 2) := cellAt HNO.out 0
        have c_node_1 : wr.cell? ⟨W7.heap.size, 1, none⟩ = some (.int .i64 f) := cellAt HNO.out 1
        have c_node_2 : wr.cell? ⟨W7.heap.size, 2, none⟩ = some (.slice sa acc.length scap) := cellAt HNO.out 2
        have c_node_3 : wr.cell? ⟨W7.heap.size, 3, none⟩ = some (.string { data := #[] }) := cellAt HNO.out 3
        go_wp2_with fail
        clear c_rest_1 c_node_0 c_node_1 c_node_2 c_node_3
        have HEF := Lib.hid (HE39.out.after HCH.out (by intro k hk; have := HL12.out; have := HL13.out; have := HL32.out; have := HL33.out; have := HL34.out; have := HL41.out; have := HL42.out; have := HL43.out; have := HCZ.out; simp only [List.mem_cons, List.mem_singleton, List.not_mem_nil, or_false] at hk ⊢; omega))
        have hpx : parseN p = (⟨2, f, acc, []⟩ : NodeM) := by have h1 := H_h1.out; have h2 := H_h2.out; have h3 := H_h3.out; have hh : parseN p = ⟨2, f, (parseCells 2 m.toNat r3 []).1, []⟩ := (by unfold parseN; simp [h1, h2, h3]); rw [hh, ← H_hR.out, ← HPE.out]
        have hcr : CRow wr W40.heap.size (.slice sa acc.length scap) acc := HRW.out
        have hsm : Small (⟨2, f, acc, []⟩ : NodeM) := ⟨by have := HBD.out; simp only; omega, by simp, HSM.out⟩
        have H_hpx := Lib.hid hpx
        have H_hcr := Lib.hid hcr
        have H_hsm := Lib.hid hsm
        clear hpx hcr hsm
        go_at_call 124; refine (nput_any (⟨2, f, acc, []⟩ : NodeM) _ _ (rowCells H_hcr.out) H_hsm.out).mono ?_; rintro e W86 ⟨rfl, hb⟩
        have hC87 := Lib.hid (Chg.of_below hb [])
        have HZ88 := Lib.hid hC87.out.size
        have H_res_89 := Lib.hid (hC87.out.get H_res_44.out (by simp))
        have H_rest_90 := Lib.hid (hC87.out.get HRE.out (by simp))
        have H_node_91 := Lib.hid (hC87.out.get HNO.out (by simp))
        have H_crow_92 := Lib.hid (ownsRow_chg H_hcr.out hC87.out (by simp))
        have HE93 := Lib.hid (HEF.out.after hC87.out (by simp))
        clear hb
        rcases hp : putN (⟨2, f, acc, []⟩ : NodeM) with ⟨q, z⟩
        have HP := Lib.hid hp
        clear hp
        simp only
        by_cases hz : z = 0
        ·
          subst hz
          by_cases hq : q = p
          ·
            subst hq
            have hpe : (q != q) = false := by simp
            have htk : takeN q = some (⟨2, f, acc, []⟩ : NodeM) := by
              unfold takeN
              rw [if_neg (by rw [HSZ.out]; simp), H_hpx.out, HP.out, if_pos rfl]
            have HTK := Lib.hid htk
            clear htk
            have c_node_0 : W86.cell? ⟨W7.heap.size, 0, none⟩ = some (.int .u8 2) := cellAt H_node_91.out 0
            have c_node_1 : W86.cell? ⟨W7.heap.size, 1, none⟩ = some (.int .i64 f) := cellAt H_node_91.out 1
            have c_node_2 : W86.cell? ⟨W7.heap.size, 2, none⟩ = some (.slice sa acc.length scap) := cellAt H_node_91.out 2
            have c_node_3 : W86.cell? ⟨W7.heap.size, 3, none⟩ = some (.string { data := #[] }) := cellAt H_node_91.out 3
            have c_res_0 : W86.cell? ⟨w.heap.size, 0, none⟩ = some (.int .u8 0) := cellAt H_res_89.out 0
            have c_res_1 : W86.cell? ⟨w.heap.size, 1, none⟩ = some (.int .i64 0) := cellAt H_res_89.out 1
            have c_res_2 : W86.cell? ⟨w.heap.size, 2, none⟩ = some (.slice none 0 0) := cellAt H_res_89.out 2
            have c_res_3 : W86.cell? ⟨w.heap.size, 3, none⟩ = some (.string { data := #[] }) := cellAt H_res_89.out 3
            have f_res_0 : W86.frozen? ⟨w.heap.size, 0, none⟩ = false := freeAt H_res_89.out 0
            have f_res_1 : W86.frozen? ⟨w.heap.size, 1, none⟩ = false := freeAt H_res_89.out 1
            have f_res_2 : W86.frozen? ⟨w.heap.size, 2, none⟩ = false := freeAt H_res_89.out 2
            have f_res_3 : W86.frozen? ⟨w.heap.size, 3, none⟩ = false := freeAt H_res_89.out 3
            go_wp2_with fail
            clear c_node_0 c_node_1 c_node_2 c_node_3 c_res_0 c_res_1 c_res_2 c_res_3 f_res_0 f_res_1 f_res_2 f_res_3
            have HL94 := Lib.hid (lt_of_block H_res_89.out)
            have HL95 := Lib.hid (lt_of_block H_rest_90.out)
            have HL96 := Lib.hid (lt_of_block H_node_91.out)
            have hC97 : Hid (Chg [w.heap.size] W86 ((((W86.setCell ⟨w.heap.size, 0, none⟩ (.int .u8 2)).setCell ⟨w.heap.size, 1, none⟩ (.int .i64 f)).setCell ⟨w.heap.size, 2, none⟩ (.slice sa acc.length scap)).setCell ⟨w.heap.size, 3, none⟩ (vs []))) := Lib.hid (((((Chg.refl [w.heap.size] W86).setCell (.inl (by simp)) (.int .u8 2)).setCell (.inl (by simp)) (.int .i64 f)).setCell (.inl (by simp)) (.slice sa acc.length scap)).setCell (.inl (by simp)) (vs []))
            have HZ98 := Lib.hid hC97.out.size
            have H_res_99 : Hid (((((W86.setCell ⟨w.heap.size, 0, none⟩ (.int .u8 2)).setCell ⟨w.heap.size, 1, none⟩ (.int .i64 f)).setCell ⟨w.heap.size, 2, none⟩ (.slice sa acc.length scap)).setCell ⟨w.heap.size, 3, none⟩ (vs [])).heap[w.heap.size]? = some (.cells #[.int .u8 2, .int .i64 f, .slice sa acc.length scap, vs []] 150)) := Lib.hid (setAt (setAt (setAt (setAt H_res_89.out 0 (.int .u8 2)) 1 (.int .i64 f)) 2 (.slice sa acc.length scap)) 3 (vs []))
            have H_rest_100 : Hid (((((W86.setCell ⟨w.heap.size, 0, none⟩ (.int .u8 2)).setCell ⟨w.heap.size, 1, none⟩ (.int .i64 f)).setCell ⟨w.heap.size, 2, none⟩ (.slice sa acc.length scap)).setCell ⟨w.heap.size, 3, none⟩ (vs [])).heap[w.heap.size + 1]? = some (restO rs false)) := Lib.hid ((setOff 3 (vs []) (by have := HL12.out; have := HL13.out; have := HL32.out; have := HL33.out; have := HL34.out; have := HL41.out; have := HL42.out; have := HL43.out; have := HCZ.out; have := HZ88.out; have := HL94.out; have := HL95.out; have := HL96.out; omega)).trans ((setOff 2 (.slice sa acc.length scap) (by have := HL12.out; have := HL13.out; have := HL32.out; have := HL33.out; have := HL34.out; have := HL41.out; have := HL42.out; have := HL43.out; have := HCZ.out; have := HZ88.out; have := HL94.out; have := HL95.out; have := HL96.out; omega)).trans ((setOff 1 (.int .i64 f) (by have := HL12.out; have := HL13.out; have := HL32.out; have := HL33.out; have := HL34.out; have := HL41.out; have := HL42.out; have := HL43.out; have := HCZ.out; have := HZ88.out; have := HL94.out; have := HL95.out; have := HL96.out; omega)).trans ((setOff 0 (.int .u8 2) (by have := HL12.out; have := HL13.out; have := HL32.out; have := HL33.out; have := HL34.out; have := HL41.out; have := HL42.out; have := HL43.out; have := HCZ.out; have := HZ88.out; have := HL94.out; have := HL95.out; have := HL96.out; omega)).trans H_rest_90.out))))
            have H_node_101 : Hid (((((W86.setCell ⟨w.heap.size, 0, none⟩ (.int .u8 2)).setCell ⟨w.heap.size, 1, none⟩ (.int .i64 f)).setCell ⟨w.heap.size, 2, none⟩ (.slice sa acc.length scap)).setCell ⟨w.heap.size, 3, none⟩ (vs [])).heap[W7.heap.size]? = some (.cells #[.int .u8 2, .int .i64 f, .slice sa acc.length scap, .string { data := #[] }] 150)) := Lib.hid ((setOff 3 (vs []) (by have := HL12.out; have := HL13.out; have := HL32.out; have := HL33.out; have := HL34.out; have := HL41.out; have := HL42.out; have := HL43.out; have := HCZ.out; have := HZ88.out; have := HL94.out; have := HL95.out; have := HL96.out; omega)).trans ((setOff 2 (.slice sa acc.length scap) (by have := HL12.out; have := HL13.out; have := HL32.out; have := HL33.out; have := HL34.out; have := HL41.out; have := HL42.out; have := HL43.out; have := HCZ.out; have := HZ88.out; have := HL94.out; have := HL95.out; have := HL96.out; omega)).trans ((setOff 1 (.int .i64 f) (by have := HL12.out; have := HL13.out; have := HL32.out; have := HL33.out; have := HL34.out; have := HL41.out; have := HL42.out; have := HL43.out; have := HCZ.out; have := HZ88.out; have := HL94.out; have := HL95.out; have := HL96.out; omega)).trans ((setOff 0 (.int .u8 2) (by have := HL12.out; have := HL13.out; have := HL32.out; have := HL33.out; have := HL34.out; have := HL41.out; have := HL42.out; have := HL43.out; have := HCZ.out; have := HZ88.out; have := HL94.out; have := HL95.out; have := HL96.out; omega)).trans H_node_91.out))))
            have H_crow_102 := Lib.hid (ownsRow_chg H_crow_92.out hC97.out (by intro k hk; have := HL12.out; have := HL13.out; have := HL32.out; have := HL33.out; have := HL34.out; have := HL41.out; have := HL42.out; have := HL43.out; have := HCZ.out; have := HZ88.out; have := HL94.out; have := HL95.out; have := HL96.out; have := HZ98.out; simp only [List.mem_cons, List.mem_singleton, List.not_mem_nil, or_false] at hk; omega))
            have HE103 := Lib.hid (HE93.out.after hC97.out (by intro k hk; have := HL12.out; have := HL13.out; have := HL32.out; have := HL33.out; have := HL34.out; have := HL41.out; have := HL42.out; have := HL43.out; have := HCZ.out; have := HZ88.out; have := HL94.out; have := HL95.out; have := HL96.out; have := HZ98.out; simp only [List.mem_cons, List.mem_singleton, List.not_mem_nil, or_false] at hk ⊢; omega))
            generalize ((((W86.setCell ⟨w.heap.size, 0, none⟩ (.int .u8 2)).setCell ⟨w.heap.size, 1, none⟩ (.int .i64 f)).setCell ⟨w.heap.size, 2, none⟩ (.slice sa acc.length scap)).setCell ⟨w.heap.size, 3, none⟩ (vs [])) = W104 at *
            have c_res_0 : W104.cell? ⟨w.heap.size, 0, none⟩ = some (.int .u8 2) := cellAt H_res_99.out 0
            have c_res_1 : W104.cell? ⟨w.heap.size, 1, none⟩ = some (.int .i64 f) := cellAt H_res_99.out 1
            have c_res_2 : W104.cell? ⟨w.heap.size, 2, none⟩ = some (.slice sa acc.length scap) := cellAt H_res_99.out 2
            have c_res_3 : W104.cell? ⟨w.heap.size, 3, none⟩ = some (vs []) := cellAt H_res_99.out 3
            exact bodyPost_ret (v := .tuple #[.agg #[.int .u8 2, .int .i64 f, .slice sa acc.length scap, vs []], .int .i64 0]) (by simp [results, Tryz.results123, go_sem, c_res_0, c_res_1, c_res_2, c_res_3]; try rfl) rfl (TakePost.mk (.slice sa acc.length scap) (by rw [HTK.out]; rfl) (by rw [HTK.out]; exact ownsRow_low H_crow_102.out (by have := HL12.out; have := HL13.out; have := HL32.out; have := HL33.out; have := HL34.out; have := HL41.out; have := HL42.out; have := HL43.out; have := HCZ.out; have := HE39.out.size; omega)) (HE103.out.to_below (Nat.le_refl _) (by simp)))
          ·
            have hpe : (q != p) = true := by simpa using hq
            have hpe2 : (q == p) = false := by simpa using hq
            have htk : takeN p = none := by
              unfold takeN
              rw [if_neg (by rw [HSZ.out]; simp), H_hpx.out, HP.out, if_neg (by simp [*])]
            have HTK := Lib.hid htk
            clear htk
            have c_res_0 : W86.cell? ⟨w.heap.size, 0, none⟩ = some (.int .u8 0) := cellAt H_res_89.out 0
            have c_res_1 : W86.cell? ⟨w.heap.size, 1, none⟩ = some (.int .i64 0) := cellAt H_res_89.out 1
            have c_res_2 : W86.cell? ⟨w.heap.size, 2, none⟩ = some (.slice none 0 0) := cellAt H_res_89.out 2
            have c_res_3 : W86.cell? ⟨w.heap.size, 3, none⟩ = some (.string { data := #[] }) := cellAt H_res_89.out 3
            have f_res_0 : W86.frozen? ⟨w.heap.size, 0, none⟩ = false := freeAt H_res_89.out 0
            have f_res_1 : W86.frozen? ⟨w.heap.size, 1, none⟩ = false := freeAt H_res_89.out 1
            have f_res_2 : W86.frozen? ⟨w.heap.size, 2, none⟩ = false := freeAt H_res_89.out 2
            have f_res_3 : W86.frozen? ⟨w.heap.size, 3, none⟩ = false := freeAt H_res_89.out 3
            go_wp2_with fail
            clear c_res_0 c_res_1 c_res_2 c_res_3 f_res_0 f_res_1 f_res_2 f_res_3
            have HL105 := Lib.hid (lt_of_block H_res_89.out)
            have HL106 := Lib.hid (lt_of_block H_rest_90.out)
            have HL107 := Lib.hid (lt_of_block H_node_91.out)
            have hC108 : Hid (Chg [w.heap.size] W86 ((((W86.setCell ⟨w.heap.size, 0, none⟩ (.int .u8 0)).setCell ⟨w.heap.size, 1, none⟩ (.int .i64 0)).setCell ⟨w.heap.size, 2, none⟩ (.slice none 0 0)).setCell ⟨w.heap.size, 3, none⟩ (.string { data := #[] }))) := Lib.hid (((((Chg.refl [w.heap.size] W86).setCell (.inl (by simp)) (.int .u8 0)).setCell (.inl (by simp)) (.int .i64 0)).setCell (.inl (by simp)) (.slice none 0 0)).setCell (.inl (by simp)) (.string { data := #[] }))
            have HZ109 := Lib.hid hC108.out.size
            have H_res_110 : Hid (((((W86.setCell ⟨w.heap.size, 0, none⟩ (.int .u8 0)).setCell ⟨w.heap.size, 1, none⟩ (.int .i64 0)).setCell ⟨w.heap.size, 2, none⟩ (.slice none 0 0)).setCell ⟨w.heap.size, 3, none⟩ (.string { data := #[] })).heap[w.heap.size]? = some (.cells #[.int .u8 0, .int .i64 0, .slice none 0 0, .string { data := #[] }] 150)) := Lib.hid (setAt (setAt (setAt (setAt H_res_89.out 0 (.int .u8 0)) 1 (.int .i64 0)) 2 (.slice none 0 0)) 3 (.string { data := #[] }))
            have H_rest_111 : Hid (((((W86.setCell ⟨w.heap.size, 0, none⟩ (.int .u8 0)).setCell ⟨w.heap.size, 1, none⟩ (.int .i64 0)).setCell ⟨w.heap.size, 2, none⟩ (.slice none 0 0)).setCell ⟨w.heap.size, 3, none⟩ (.string { data := #[] })).heap[w.heap.size + 1]? = some (restO rs false)) := Lib.hid ((setOff 3 (.string { data := #[] }) (by have := HL12.out; have := HL13.out; have := HL32.out; have := HL33.out; have := HL34.out; have := HL41.out; have := HL42.out; have := HL43.out; have := HCZ.out; have := HZ88.out; have := HL105.out; have := HL106.out; have := HL107.out; omega)).trans ((setOff 2 (.slice none 0 0) (by have := HL12.out; have := HL13.out; have := HL32.out; have := HL33.out; have := HL34.out; have := HL41.out; have := HL42.out; have := HL43.out; have := HCZ.out; have := HZ88.out; have := HL105.out; have := HL106.out; have := HL107.out; omega)).trans ((setOff 1 (.int .i64 0) (by have := HL12.out; have := HL13.out; have := HL32.out; have := HL33.out; have := HL34.out; have := HL41.out; have := HL42.out; have := HL43.out; have := HCZ.out; have := HZ88.out; have := HL105.out; have := HL106.out; have := HL107.out; omega)).trans ((setOff 0 (.int .u8 0) (by have := HL12.out; have := HL13.out; have := HL32.out; have := HL33.out; have := HL34.out; have := HL41.out; have := HL42.out; have := HL43.out; have := HCZ.out; have := HZ88.out; have := HL105.out; have := HL106.out; have := HL107.out; omega)).trans H_rest_90.out))))
            have H_node_112 : Hid (((((W86.setCell ⟨w.heap.size, 0, none⟩ (.int .u8 0)).setCell ⟨w.heap.size, 1, none⟩ (.int .i64 0)).setCell ⟨w.heap.size, 2, none⟩ (.slice none 0 0)).setCell ⟨w.heap.size, 3, none⟩ (.string { data := #[] })).heap[W7.heap.size]? = some (.cells #[.int .u8 2, .int .i64 f, .slice sa acc.length scap, .string { data := #[] }] 150)) := Lib.hid ((setOff 3 (.string { data := #[] }) (by have := HL12.out; have := HL13.out; have := HL32.out; have := HL33.out; have := HL34.out; have := HL41.out; have := HL42.out; have := HL43.out; have := HCZ.out; have := HZ88.out; have := HL105.out; have := HL106.out; have := HL107.out; omega)).trans ((setOff 2 (.slice none 0 0) (by have := HL12.out; have := HL13.out; have := HL32.out; have := HL33.out; have := HL34.out; have := HL41.out; have := HL42.out; have := HL43.out; have := HCZ.out; have := HZ88.out; have := HL105.out; have := HL106.out; have := HL107.out; omega)).trans ((setOff 1 (.int .i64 0) (by have := HL12.out; have := HL13.out; have := HL32.out; have := HL33.out; have := HL34.out; have := HL41.out; have := HL42.out; have := HL43.out; have := HCZ.out; have := HZ88.out; have := HL105.out; have := HL106.out; have := HL107.out; omega)).trans ((setOff 0 (.int .u8 0) (by have := HL12.out; have := HL13.out; have := HL32.out; have := HL33.out; have := HL34.out; have := HL41.out; have := HL42.out; have := HL43.out; have := HCZ.out; have := HZ88.out; have := HL105.out; have := HL106.out; have := HL107.out; omega)).trans H_node_91.out))))
            have H_crow_113 := Lib.hid (ownsRow_chg H_crow_92.out hC108.out (by intro k hk; have := HL12.out; have := HL13.out; have := HL32.out; have := HL33.out; have := HL34.out; have := HL41.out; have := HL42.out; have := HL43.out; have := HCZ.out; have := HZ88.out; have := HL105.out; have := HL106.out; have := HL107.out; have := HZ109.out; simp only [List.mem_cons, List.mem_singleton, List.not_mem_nil, or_false] at hk; omega))
            have HE114 := Lib.hid (HE93.out.after hC108.out (by intro k hk; have := HL12.out; have := HL13.out; have := HL32.out; have := HL33.out; have := HL34.out; have := HL41.out; have := HL42.out; have := HL43.out; have := HCZ.out; have := HZ88.out; have := HL105.out; have := HL106.out; have := HL107.out; have := HZ109.out; simp only [List.mem_cons, List.mem_singleton, List.not_mem_nil, or_false] at hk ⊢; omega))
            generalize ((((W86.setCell ⟨w.heap.size, 0, none⟩ (.int .u8 0)).setCell ⟨w.heap.size, 1, none⟩ (.int .i64 0)).setCell ⟨w.heap.size, 2, none⟩ (.slice none 0 0)).setCell ⟨w.heap.size, 3, none⟩ (.string { data := #[] })) = W115 at *
            have c_res_0 : W115.cell? ⟨w.heap.size, 0, none⟩ = some (.int .u8 0) := cellAt H_res_110.out 0
            have c_res_1 : W115.cell? ⟨w.heap.size, 1, none⟩ = some (.int .i64 0) := cellAt H_res_110.out 1
            have c_res_2 : W115.cell? ⟨w.heap.size, 2, none⟩ = some (.slice none 0 0) := cellAt H_res_110.out 2
            have c_res_3 : W115.cell? ⟨w.heap.size, 3, none⟩ = some (.string { data := #[] }) := cellAt H_res_110.out 3
            exact bodyPost_ret (v := .tuple #[.agg #[.int .u8 0, .int .i64 0, .slice none 0 0, .string { data := #[] }], .int .i64 7]) (by simp [results, Tryz.results123, go_sem, c_res_0, c_res_1, c_res_2, c_res_3]; try rfl) rfl (TakePost.mk (.slice none 0 0) (by rw [HTK.out]; rfl) (by rw [HTK.out]; exact World.ownsRow_nil _ _ _ _) (HE114.out.to_below (Nat.le_refl _) (by simp)))
        ·
          have hz1 : (z == 0) = false := by simpa using hz
          have hz2 : (z != 0) = true := by simpa using hz
          have htk : takeN p = none := by
            unfold takeN
            rw [if_neg (by rw [HSZ.out]; simp), H_hpx.out, HP.out, if_neg (by simp [*])]
          have HTK := Lib.hid htk
          clear htk
          have c_res_0 : W86.cell? ⟨w.heap.size, 0, none⟩ = some (.int .u8 0) := cellAt H_res_89.out 0
          have c_res_1 : W86.cell? ⟨w.heap.size, 1, none⟩ = some (.int .i64 0) := cellAt H_res_89.out 1
          have c_res_2 : W86.cell? ⟨w.heap.size, 2, none⟩ = some (.slice none 0 0) := cellAt H_res_89.out 2
          have c_res_3 : W86.cell? ⟨w.heap.size, 3, none⟩ = some (.string { data := #[] }) := cellAt H_res_89.out 3
          have f_res_0 : W86.frozen? ⟨w.heap.size, 0, none⟩ = false := freeAt H_res_89.out 0
          have f_res_1 : W86.frozen? ⟨w.heap.size, 1, none⟩ = false := freeAt H_res_89.out 1
          have f_res_2 : W86.frozen? ⟨w.heap.size, 2, none⟩ = false := freeAt H_res_89.out 2
          have f_res_3 : W86.frozen? ⟨w.heap.size, 3, none⟩ = false := freeAt H_res_89.out 3
          go_wp2_with fail
          clear c_res_0 c_res_1 c_res_2 c_res_3 f_res_0 f_res_1 f_res_2 f_res_3
          have HL116 := Lib.hid (lt_of_block H_res_89.out)
          have HL117 := Lib.hid (lt_of_block H_rest_90.out)
          have HL118 := Lib.hid (lt_of_block H_node_91.out)
          have hC119 : Hid (Chg [w.heap.size] W86 ((((W86.setCell ⟨w.heap.size, 0, none⟩ (.int .u8 0)).setCell ⟨w.heap.size, 1, none⟩ (.int .i64 0)).setCell ⟨w.heap.size, 2, none⟩ (.slice none 0 0)).setCell ⟨w.heap.size, 3, none⟩ (.string { data := #[] }))) := Lib.hid (((((Chg.refl [w.heap.size] W86).setCell (.inl (by simp)) (.int .u8 0)).setCell (.inl (by simp)) (.int .i64 0)).setCell (.inl (by simp)) (.slice none 0 0)).setCell (.inl (by simp)) (.string { data := #[] }))
          have HZ120 := Lib.hid hC119.out.size
          have H_res_121 : Hid (((((W86.setCell ⟨w.heap.size, 0, none⟩ (.int .u8 0)).setCell ⟨w.heap.size, 1, none⟩ (.int .i64 0)).setCell ⟨w.heap.size, 2, none⟩ (.slice none 0 0)).setCell ⟨w.heap.size, 3, none⟩ (.string { data := #[] })).heap[w.heap.size]? = some (.cells #[.int .u8 0, .int .i64 0, .slice none 0 0, .string { data := #[] }] 150)) := Lib.hid (setAt (setAt (setAt (setAt H_res_89.out 0 (.int .u8 0)) 1 (.int .i64 0)) 2 (.slice none 0 0)) 3 (.string { data := #[] }))
          have H_rest_122 : Hid (((((W86.setCell ⟨w.heap.size, 0, none⟩ (.int .u8 0)).setCell ⟨w.heap.size, 1, none⟩ (.int .i64 0)).setCell ⟨w.heap.size, 2, none⟩ (.slice none 0 0)).setCell ⟨w.heap.size, 3, none⟩ (.string { data := #[] })).heap[w.heap.size + 1]? = some (restO rs false)) := Lib.hid ((setOff 3 (.string { data := #[] }) (by have := HL12.out; have := HL13.out; have := HL32.out; have := HL33.out; have := HL34.out; have := HL41.out; have := HL42.out; have := HL43.out; have := HCZ.out; have := HZ88.out; have := HL116.out; have := HL117.out; have := HL118.out; omega)).trans ((setOff 2 (.slice none 0 0) (by have := HL12.out; have := HL13.out; have := HL32.out; have := HL33.out; have := HL34.out; have := HL41.out; have := HL42.out; have := HL43.out; have := HCZ.out; have := HZ88.out; have := HL116.out; have := HL117.out; have := HL118.out; omega)).trans ((setOff 1 (.int .i64 0) (by have := HL12.out; have := HL13.out; have := HL32.out; have := HL33.out; have := HL34.out; have := HL41.out; have := HL42.out; have := HL43.out; have := HCZ.out; have := HZ88.out; have := HL116.out; have := HL117.out; have := HL118.out; omega)).trans ((setOff 0 (.int .u8 0) (by have := HL12.out; have := HL13.out; have := HL32.out; have := HL33.out; have := HL34.out; have := HL41.out; have := HL42.out; have := HL43.out; have := HCZ.out; have := HZ88.out; have := HL116.out; have := HL117.out; have := HL118.out; omega)).trans H_rest_90.out))))
          have H_node_123 : Hid (((((W86.setCell ⟨w.heap.size, 0, none⟩ (.int .u8 0)).setCell ⟨w.heap.size, 1, none⟩ (.int .i64 0)).setCell ⟨w.heap.size, 2, none⟩ (.slice none 0 0)).setCell ⟨w.heap.size, 3, none⟩ (.string { data := #[] })).heap[W7.heap.size]? = some (.cells #[.int .u8 2, .int .i64 f, .slice sa acc.length scap, .string { data := #[] }] 150)) := Lib.hid ((setOff 3 (.string { data := #[] }) (by have := HL12.out; have := HL13.out; have := HL32.out; have := HL33.out; have := HL34.out; have := HL41.out; have := HL42.out; have := HL43.out; have := HCZ.out; have := HZ88.out; have := HL116.out; have := HL117.out; have := HL118.out; omega)).trans ((setOff 2 (.slice none 0 0) (by have := HL12.out; have := HL13.out; have := HL32.out; have := HL33.out; have := HL34.out; have := HL41.out; have := HL42.out; have := HL43.out; have := HCZ.out; have := HZ88.out; have := HL116.out; have := HL117.out; have := HL118.out; omega)).trans ((setOff 1 (.int .i64 0) (by have := HL12.out; have := HL13.out; have := HL32.out; have := HL33.out; have := HL34.out; have := HL41.out; have := HL42.out; have := HL43.out; have := HCZ.out; have := HZ88.out; have := HL116.out; have := HL117.out; have := HL118.out; omega)).trans ((setOff 0 (.int .u8 0) (by have := HL12.out; have := HL13.out; have := HL32.out; have := HL33.out; have := HL34.out; have := HL41.out; have := HL42.out; have := HL43.out; have := HCZ.out; have := HZ88.out; have := HL116.out; have := HL117.out; have := HL118.out; omega)).trans H_node_91.out))))
          have H_crow_124 := Lib.hid (ownsRow_chg H_crow_92.out hC119.out (by intro k hk; have := HL12.out; have := HL13.out; have := HL32.out; have := HL33.out; have := HL34.out; have := HL41.out; have := HL42.out; have := HL43.out; have := HCZ.out; have := HZ88.out; have := HL116.out; have := HL117.out; have := HL118.out; have := HZ120.out; simp only [List.mem_cons, List.mem_singleton, List.not_mem_nil, or_false] at hk; omega))
          have HE125 := Lib.hid (HE93.out.after hC119.out (by intro k hk; have := HL12.out; have := HL13.out; have := HL32.out; have := HL33.out; have := HL34.out; have := HL41.out; have := HL42.out; have := HL43.out; have := HCZ.out; have := HZ88.out; have := HL116.out; have := HL117.out; have := HL118.out; have := HZ120.out; simp only [List.mem_cons, List.mem_singleton, List.not_mem_nil, or_false] at hk ⊢; omega))
          generalize ((((W86.setCell ⟨w.heap.size, 0, none⟩ (.int .u8 0)).setCell ⟨w.heap.size, 1, none⟩ (.int .i64 0)).setCell ⟨w.heap.size, 2, none⟩ (.slice none 0 0)).setCell ⟨w.heap.size, 3, none⟩ (.string { data := #[] })) = W126 at *
          have c_res_0 : W126.cell? ⟨w.heap.size, 0, none⟩ = some (.int .u8 0) := cellAt H_res_121.out 0
          have c_res_1 : W126.cell? ⟨w.heap.size, 1, none⟩ = some (.int .i64 0) := cellAt H_res_121.out 1
          have c_res_2 : W126.cell? ⟨w.heap.size, 2, none⟩ = some (.slice none 0 0) := cellAt H_res_121.out 2
          have c_res_3 : W126.cell? ⟨w.heap.size, 3, none⟩ = some (.string { data := #[] }) := cellAt H_res_121.out 3
          exact bodyPost_ret (v := .tuple #[.agg #[.int .u8 0, .int .i64 0, .slice none 0 0, .string { data := #[] }], .int .i64 7]) (by simp [results, Tryz.results123, go_sem, c_res_0, c_res_1, c_res_2, c_res_3]; try rfl) rfl (TakePost.mk (.slice none 0 0) (by rw [HTK.out]; rfl) (by rw [HTK.out]; exact World.ownsRow_nil _ _ _ _) (HE125.out.to_below (Nat.le_refl _) (by simp)))
    | true =>
      have H_res_127 := Lib.hid (HCH.out.get H_res_36.out (by have := HL12.out; have := HL13.out; have := HL32.out; have := HL33.out; have := HL34.out; have := HL41.out; have := HL42.out; have := HL43.out; simp only [List.mem_cons, List.mem_singleton, List.not_mem_nil, or_false, not_or, not_false_eq_true]; omega))
      have HRU : Hid (∀ g ∈ rowB v, g < wr.heap.size) := Lib.hid (rowB_lt HRW.out)
      have HCZ := Lib.hid HCH.out.size
      by_cases hlt : (j : Int) < m
      ·
        have HLT := Lib.hid hlt
        have hfu : m.toNat - j = (m.toNat - j - 1) + 1 := by omega
        have HPC1 := HPC.out
        rw [hfu] at HPC1
        simp only [parseCells, if_true] at HPC1
        have HPC2 := Lib.hid HPC1
        clear HPC1 hfu
        have c_rest_1 : wr.cell? ⟨w.heap.size + 1, 1, none⟩ = some (.bool true) := cellAt HRE.out 1
        have c_node_0 : wr.cell? ⟨W7.heap.size, 0, none⟩ = some (.int .u8 2) := cellAt HNO.out 0
        go_wp2_with fail
        clear c_rest_1 c_node_0
        rcases g1 : rnum 1 ⟨rs, true⟩ with ⟨n1, q1⟩
        have Fg1 := rnum_facts g1 (by decide)
        simp only [show ((256 : Int) ^ (1 : Int).toNat) = 256 by decide] at Fg1
        obtain ⟨n10, n19, Fg1⟩ := Fg1
        have H_g1 := Lib.hid g1
        have H_Fg1 := Lib.hid Fg1
        clear g1 Fg1
        go_at_call 181; refine (rnum_any 1 (by decide) (by decide) _ _ _ H_g1.out _ _ (by have := HBD.out; first | omega | (simp only at *; omega)) HRE.out).mono ?_; rintro e W128 ⟨rfl, hr, hc⟩
        have hC129 := Lib.hid hc
        have HZ130 := Lib.hid hC129.out.size
        have H_res_131 := Lib.hid (hC129.out.get H_res_127.out (by have := HL12.out; have := HL13.out; have := HL32.out; have := HL33.out; have := HL34.out; have := HL41.out; have := HL42.out; have := HL43.out; have := HCZ.out; have := HZ130.out; simp only [List.mem_cons, List.mem_singleton, List.not_mem_nil, or_false, not_or, not_false_eq_true]; omega))
        have H_rest_132 : Hid (W128.heap[w.heap.size + 1]? = some (restO q1.s q1.ok)) := Lib.hid hr
        have H_node_133 := Lib.hid (hC129.out.get HNO.out (by have := HL12.out; have := HL13.out; have := HL32.out; have := HL33.out; have := HL34.out; have := HL41.out; have := HL42.out; have := HL43.out; have := HCZ.out; have := HZ130.out; simp only [List.mem_cons, List.mem_singleton, List.not_mem_nil, or_false, not_or, not_false_eq_true]; omega))
        have H_row_134 := Lib.hid (ownsRow_chg2 HRW.out HRU.out hC129.out (by intro k hk; have := HL12.out; have := HL13.out; have := HL32.out; have := HL33.out; have := HL34.out; have := HL41.out; have := HL42.out; have := HL43.out; have := HCZ.out; have := HZ130.out; simp only [List.mem_cons, List.mem_singleton, List.not_mem_nil, or_false] at hk; omega))
        have HE135 := Lib.hid (HCH.out.after hC129.out (by intro k hk; have := HL12.out; have := HL13.out; have := HL32.out; have := HL33.out; have := HL34.out; have := HL41.out; have := HL42.out; have := HL43.out; have := HCZ.out; have := HZ130.out; simp only [List.mem_cons, List.mem_singleton, List.not_mem_nil, or_false] at hk ⊢; omega))
        clear hc hr
        have c_node_0 : W128.cell? ⟨W7.heap.size, 0, none⟩ = some (.int .u8 2) := cellAt H_node_133.out 0
        go_wp2_with fail
        clear c_node_0
        rcases g2 : rtext n1 q1 with ⟨ky, q2⟩
        have Fg2 := rtext_facts g2 n10
        have H_g2 := Lib.hid g2
        have H_Fg2 := Lib.hid Fg2
        clear g2 Fg2
        go_at_call 182; refine (rtext_any n1 n10 _ _ _ H_g2.out _ _ (by have := HBD.out; have := H_Fg1.out; first | omega | (simp only at *; omega)) H_rest_132.out).mono ?_; rintro e W136 ⟨rfl, hr, hc⟩
        have hC137 := Lib.hid hc
        have HZ138 := Lib.hid hC137.out.size
        have H_res_139 := Lib.hid (hC137.out.get H_res_131.out (by have := HL12.out; have := HL13.out; have := HL32.out; have := HL33.out; have := HL34.out; have := HL41.out; have := HL42.out; have := HL43.out; have := HCZ.out; have := HZ130.out; have := HZ138.out; simp only [List.mem_cons, List.mem_singleton, List.not_mem_nil, or_false, not_or, not_false_eq_true]; omega))
        have H_rest_140 : Hid (W136.heap[w.heap.size + 1]? = some (restO q2.s q2.ok)) := Lib.hid hr
        have H_node_141 := Lib.hid (hC137.out.get H_node_133.out (by have := HL12.out; have := HL13.out; have := HL32.out; have := HL33.out; have := HL34.out; have := HL41.out; have := HL42.out; have := HL43.out; have := HCZ.out; have := HZ130.out; have := HZ138.out; simp only [List.mem_cons, List.mem_singleton, List.not_mem_nil, or_false, not_or, not_false_eq_true]; omega))
        have H_row_142 := Lib.hid (ownsRow_chg2 H_row_134.out HRU.out hC137.out (by intro k hk; have := HL12.out; have := HL13.out; have := HL32.out; have := HL33.out; have := HL34.out; have := HL41.out; have := HL42.out; have := HL43.out; have := HCZ.out; have := HZ130.out; have := HZ138.out; simp only [List.mem_cons, List.mem_singleton, List.not_mem_nil, or_false] at hk; omega))
        have HE143 := Lib.hid (HE135.out.after hC137.out (by intro k hk; have := HL12.out; have := HL13.out; have := HL32.out; have := HL33.out; have := HL34.out; have := HL41.out; have := HL42.out; have := HL43.out; have := HCZ.out; have := HZ130.out; have := HZ138.out; simp only [List.mem_cons, List.mem_singleton, List.not_mem_nil, or_false] at hk ⊢; omega))
        clear hc hr
        have c_node_0 : W136.cell? ⟨W7.heap.size, 0, none⟩ = some (.int .u8 2) := cellAt H_node_141.out 0
        have o_node_0_1 : (W136.alloc (.cells #[vs ky, .int .i64 0, .string { data := #[] }, .int .i64 0] 144)).cell? ⟨W7.heap.size, 0, none⟩ = some (.int .u8 2) := cellAt (heapOld H_node_141.out (.cells #[vs ky, .int .i64 0, .string { data := #[] }, .int .i64 0] 144)) 0
        go_wp2_with fail
        clear c_node_0 o_node_0_1
        have HL144 := Lib.hid (lt_of_block H_res_139.out)
        have HL145 := Lib.hid (lt_of_block H_rest_140.out)
        have HL146 := Lib.hid (lt_of_block H_node_141.out)
        have hC147 : Hid (Chg [] W136 (W136.alloc (.cells #[vs ky, .int .i64 0, .string { data := #[] }, .int .i64 0] 144))) := Lib.hid ((Chg.refl [] W136).alloc (.cells #[vs ky, .int .i64 0, .string { data := #[] }, .int .i64 0] 144))
        have HZ148 := Lib.hid hC147.out.size
        have H_res_149 : Hid ((W136.alloc (.cells #[vs ky, .int .i64 0, .string { data := #[] }, .int .i64 0] 144)).heap[w.heap.size]? = some (.cells #[.int .u8 0, .int .i64 0, .slice none 0 0, .string { data := #[] }] 150)) := Lib.hid (heapOld H_res_139.out (.cells #[vs ky, .int .i64 0, .string { data := #[] }, .int .i64 0] 144))
        have H_rest_150 : Hid ((W136.alloc (.cells #[vs ky, .int .i64 0, .string { data := #[] }, .int .i64 0] 144)).heap[w.heap.size + 1]? = some (restO q2.s q2.ok)) := Lib.hid (heapOld H_rest_140.out (.cells #[vs ky, .int .i64 0, .string { data := #[] }, .int .i64 0] 144))
        have H_node_151 : Hid ((W136.alloc (.cells #[vs ky, .int .i64 0, .string { data := #[] }, .int .i64 0] 144)).heap[W7.heap.size]? = some (.cells #[.int .u8 2, .int .i64 f, v, .string { data := #[] }] 150)) := Lib.hid (heapOld H_node_141.out (.cells #[vs ky, .int .i64 0, .string { data := #[] }, .int .i64 0] 144))
        have H_tc_152 : Hid ((W136.alloc (.cells #[vs ky, .int .i64 0, .string { data := #[] }, .int .i64 0] 144)).heap[W136.heap.size]? = some (.cells #[vs ky, .int .i64 0, .string { data := #[] }, .int .i64 0] 144)) := Lib.hid (heapNew (by simp [World.setCell]) (.cells #[vs ky, .int .i64 0, .string { data := #[] }, .int .i64 0] 144))
        have H_row_153 := Lib.hid (ownsRow_chg2 H_row_142.out HRU.out hC147.out (by simp))
        have HE154 := Lib.hid (HE143.out.after hC147.out (by simp))
        generalize (W136.alloc (.cells #[vs ky, .int .i64 0, .string { data := #[] }, .int .i64 0] 144)) = W155 at *
        rcases g5 : rnum 4 q2 with ⟨pg, q5⟩
        have Fg5 := rnum_facts g5 (by decide)
        simp only [show ((256 : Int) ^ (4 : Int).toNat) = 4294967296 by decide] at Fg5
        obtain ⟨pg0, pg9, Fg5⟩ := Fg5
        have H_g5 := Lib.hid g5
        have H_Fg5 := Lib.hid Fg5
        clear g5 Fg5
        go_at_call 181; refine (rnum_any 4 (by decide) (by decide) _ _ _ H_g5.out _ _ (by have := HBD.out; have := H_Fg1.out; have := H_Fg2.out; first | omega | (simp only at *; omega)) H_rest_150.out).mono ?_; rintro e W156 ⟨rfl, hr, hc⟩
        have hC157 := Lib.hid hc
        have HZ158 := Lib.hid hC157.out.size
        have H_res_159 := Lib.hid (hC157.out.get H_res_149.out (by have := HL12.out; have := HL13.out; have := HL32.out; have := HL33.out; have := HL34.out; have := HL41.out; have := HL42.out; have := HL43.out; have := HCZ.out; have := HZ130.out; have := HZ138.out; have := HL144.out; have := HL145.out; have := HL146.out; have := HZ148.out; have := HZ158.out; simp only [List.mem_cons, List.mem_singleton, List.not_mem_nil, or_false, not_or, not_false_eq_true]; omega))
        have H_rest_160 : Hid (W156.heap[w.heap.size + 1]? = some (restO q5.s q5.ok)) := Lib.hid hr
        have H_node_161 := Lib.hid (hC157.out.get H_node_151.out (by have := HL12.out; have := HL13.out; have := HL32.out; have := HL33.out; have := HL34.out; have := HL41.out; have := HL42.out; have := HL43.out; have := HCZ.out; have := HZ130.out; have := HZ138.out; have := HL144.out; have := HL145.out; have := HL146.out; have := HZ148.out; have := HZ158.out; simp only [List.mem_cons, List.mem_singleton, List.not_mem_nil, or_false, not_or, not_false_eq_true]; omega))
        have H_tc_162 := Lib.hid (hC157.out.get H_tc_152.out (by have := HL12.out; have := HL13.out; have := HL32.out; have := HL33.out; have := HL34.out; have := HL41.out; have := HL42.out; have := HL43.out; have := HCZ.out; have := HZ130.out; have := HZ138.out; have := HL144.out; have := HL145.out; have := HL146.out; have := HZ148.out; have := HZ158.out; simp only [List.mem_cons, List.mem_singleton, List.not_mem_nil, or_false, not_or, not_false_eq_true]; omega))
        have H_row_163 := Lib.hid (ownsRow_chg2 H_row_153.out HRU.out hC157.out (by intro k hk; have := HL12.out; have := HL13.out; have := HL32.out; have := HL33.out; have := HL34.out; have := HL41.out; have := HL42.out; have := HL43.out; have := HCZ.out; have := HZ130.out; have := HZ138.out; have := HL144.out; have := HL145.out; have := HL146.out; have := HZ148.out; have := HZ158.out; simp only [List.mem_cons, List.mem_singleton, List.not_mem_nil, or_false] at hk; omega))
        have HE164 := Lib.hid (HE154.out.after hC157.out (by intro k hk; have := HL12.out; have := HL13.out; have := HL32.out; have := HL33.out; have := HL34.out; have := HL41.out; have := HL42.out; have := HL43.out; have := HCZ.out; have := HZ130.out; have := HZ138.out; have := HL144.out; have := HL145.out; have := HL146.out; have := HZ148.out; have := HZ158.out; simp only [List.mem_cons, List.mem_singleton, List.not_mem_nil, or_false] at hk ⊢; omega))
        clear hc hr
        have c_tc_0 : W156.cell? ⟨W136.heap.size, 0, none⟩ = some (vs ky) := cellAt H_tc_162.out 0
        have c_tc_1 : W156.cell? ⟨W136.heap.size, 1, none⟩ = some (.int .i64 0) := cellAt H_tc_162.out 1
        have c_tc_2 : W156.cell? ⟨W136.heap.size, 2, none⟩ = some (.string { data := #[] }) := cellAt H_tc_162.out 2
        have c_tc_3 : W156.cell? ⟨W136.heap.size, 3, none⟩ = some (.int .i64 0) := cellAt H_tc_162.out 3
        have f_tc_3 : W156.frozen? ⟨W136.heap.size, 3, none⟩ = false := freeAt H_tc_162.out 3
        have c_node_0 : W156.cell? ⟨W7.heap.size, 0, none⟩ = some (.int .u8 2) := cellAt H_node_161.out 0
        have c_node_2 : W156.cell? ⟨W7.heap.size, 2, none⟩ = some (v) := cellAt H_node_161.out 2
        have HL165 := Lib.hid (lt_of_block H_res_159.out)
        have HL166 := Lib.hid (lt_of_block H_rest_160.out)
        have HL167 := Lib.hid (lt_of_block H_node_161.out)
        have HL168 := Lib.hid (lt_of_block H_tc_162.out)
        have p_node_0 : (W156.setCell ⟨W136.heap.size, 3, none⟩ (.int .i64 pg)).cell? ⟨W7.heap.size, 0, none⟩ = some (.int .u8 2) := cellAt ((setOff 3 (.int .i64 pg) (by have := HL12.out; have := HL13.out; have := HL32.out; have := HL33.out; have := HL34.out; have := HL41.out; have := HL42.out; have := HL43.out; have := HCZ.out; have := HZ130.out; have := HZ138.out; have := HL144.out; have := HL145.out; have := HL146.out; have := HZ148.out; have := HZ158.out; have := HL165.out; have := HL166.out; have := HL167.out; have := HL168.out; omega)).trans H_node_161.out) 0
        have p_node_2 : (W156.setCell ⟨W136.heap.size, 3, none⟩ (.int .i64 pg)).cell? ⟨W7.heap.size, 2, none⟩ = some (v) := cellAt ((setOff 3 (.int .i64 pg) (by have := HL12.out; have := HL13.out; have := HL32.out; have := HL33.out; have := HL34.out; have := HL41.out; have := HL42.out; have := HL43.out; have := HCZ.out; have := HZ130.out; have := HZ138.out; have := HL144.out; have := HL145.out; have := HL146.out; have := HZ148.out; have := HZ158.out; have := HL165.out; have := HL166.out; have := HL167.out; have := HL168.out; omega)).trans H_node_161.out) 2
        have HL169 := Lib.hid (lt_of_block H_res_159.out)
        have HL170 := Lib.hid (lt_of_block H_rest_160.out)
        have HL171 := Lib.hid (lt_of_block H_node_161.out)
        have HL172 := Lib.hid (lt_of_block H_tc_162.out)
        have hC173 : Hid (Chg [W136.heap.size] W156 ((W156.setCell ⟨W136.heap.size, 3, none⟩ (.int .i64 pg)).alloc (.cells #[vs ky, .int .i64 0, .string { data := #[] }, .int .i64 pg] 144))) := Lib.hid (((Chg.refl [W136.heap.size] W156).setCell (.inl (by simp)) (.int .i64 pg)).alloc (.cells #[vs ky, .int .i64 0, .string { data := #[] }, .int .i64 pg] 144))
        have HZ174 := Lib.hid hC173.out.size
        have H_res_175 : Hid (((W156.setCell ⟨W136.heap.size, 3, none⟩ (.int .i64 pg)).alloc (.cells #[vs ky, .int .i64 0, .string { data := #[] }, .int .i64 pg] 144)).heap[w.heap.size]? = some (.cells #[.int .u8 0, .int .i64 0, .slice none 0 0, .string { data := #[] }] 150)) := Lib.hid (heapOld ((setOff 3 (.int .i64 pg) (by have := HL12.out; have := HL13.out; have := HL32.out; have := HL33.out; have := HL34.out; have := HL41.out; have := HL42.out; have := HL43.out; have := HCZ.out; have := HZ130.out; have := HZ138.out; have := HL144.out; have := HL145.out; have := HL146.out; have := HZ148.out; have := HZ158.out; have := HL165.out; have := HL166.out; have := HL167.out; have := HL168.out; have := HL169.out; have := HL170.out; have := HL171.out; have := HL172.out; omega)).trans H_res_159.out) (.cells #[vs ky, .int .i64 0, .string { data := #[] }, .int .i64 pg] 144))
        have H_rest_176 : Hid (((W156.setCell ⟨W136.heap.size, 3, none⟩ (.int .i64 pg)).alloc (.cells #[vs ky, .int .i64 0, .string { data := #[] }, .int .i64 pg] 144)).heap[w.heap.size + 1]? = some (restO q5.s q5.ok)) := Lib.hid (heapOld ((setOff 3 (.int .i64 pg) (by have := HL12.out; have := HL13.out; have := HL32.out; have := HL33.out; have := HL34.out; have := HL41.out; have := HL42.out; have := HL43.out; have := HCZ.out; have := HZ130.out; have := HZ138.out; have := HL144.out; have := HL145.out; have := HL146.out; have := HZ148.out; have := HZ158.out; have := HL165.out; have := HL166.out; have := HL167.out; have := HL168.out; have := HL169.out; have := HL170.out; have := HL171.out; have := HL172.out; omega)).trans H_rest_160.out) (.cells #[vs ky, .int .i64 0, .string { data := #[] }, .int .i64 pg] 144))
        have H_node_177 : Hid (((W156.setCell ⟨W136.heap.size, 3, none⟩ (.int .i64 pg)).alloc (.cells #[vs ky, .int .i64 0, .string { data := #[] }, .int .i64 pg] 144)).heap[W7.heap.size]? = some (.cells #[.int .u8 2, .int .i64 f, v, .string { data := #[] }] 150)) := Lib.hid (heapOld ((setOff 3 (.int .i64 pg) (by have := HL12.out; have := HL13.out; have := HL32.out; have := HL33.out; have := HL34.out; have := HL41.out; have := HL42.out; have := HL43.out; have := HCZ.out; have := HZ130.out; have := HZ138.out; have := HL144.out; have := HL145.out; have := HL146.out; have := HZ148.out; have := HZ158.out; have := HL165.out; have := HL166.out; have := HL167.out; have := HL168.out; have := HL169.out; have := HL170.out; have := HL171.out; have := HL172.out; omega)).trans H_node_161.out) (.cells #[vs ky, .int .i64 0, .string { data := #[] }, .int .i64 pg] 144))
        have H_tc_178 : Hid (((W156.setCell ⟨W136.heap.size, 3, none⟩ (.int .i64 pg)).alloc (.cells #[vs ky, .int .i64 0, .string { data := #[] }, .int .i64 pg] 144)).heap[W136.heap.size]? = some (.cells #[vs ky, .int .i64 0, .string { data := #[] }, .int .i64 pg] 144)) := Lib.hid (heapOld (setAt H_tc_162.out 3 (.int .i64 pg)) (.cells #[vs ky, .int .i64 0, .string { data := #[] }, .int .i64 pg] 144))
        have H_tmp_179 : Hid (((W156.setCell ⟨W136.heap.size, 3, none⟩ (.int .i64 pg)).alloc (.cells #[vs ky, .int .i64 0, .string { data := #[] }, .int .i64 pg] 144)).heap[W156.heap.size]? = some (.cells #[vs ky, .int .i64 0, .string { data := #[] }, .int .i64 pg] 144)) := Lib.hid (heapNew (by simp [World.setCell]) (.cells #[vs ky, .int .i64 0, .string { data := #[] }, .int .i64 pg] 144))
        have H_row_180 := Lib.hid (ownsRow_chg2 H_row_163.out HRU.out hC173.out (by intro k hk; have := HL12.out; have := HL13.out; have := HL32.out; have := HL33.out; have := HL34.out; have := HL41.out; have := HL42.out; have := HL43.out; have := HCZ.out; have := HZ130.out; have := HZ138.out; have := HL144.out; have := HL145.out; have := HL146.out; have := HZ148.out; have := HZ158.out; have := HL165.out; have := HL166.out; have := HL167.out; have := HL168.out; have := HL169.out; have := HL170.out; have := HL171.out; have := HL172.out; have := HZ174.out; simp only [List.mem_cons, List.mem_singleton, List.not_mem_nil, or_false] at hk; omega))
        have HE181 := Lib.hid (HE164.out.after hC173.out (by intro k hk; have := HL12.out; have := HL13.out; have := HL32.out; have := HL33.out; have := HL34.out; have := HL41.out; have := HL42.out; have := HL43.out; have := HCZ.out; have := HZ130.out; have := HZ138.out; have := HL144.out; have := HL145.out; have := HL146.out; have := HZ148.out; have := HZ158.out; have := HL165.out; have := HL166.out; have := HL167.out; have := HL168.out; have := HL169.out; have := HL170.out; have := HL171.out; have := HL172.out; have := HZ174.out; simp only [List.mem_cons, List.mem_singleton, List.not_mem_nil, or_false] at hk ⊢; omega))
        obtain ⟨cl, hcl⟩ : ∃ cl : CellM, cl = ⟨ky, 0, [], pg⟩ := ⟨_, rfl⟩
        have HCL : Hid ((parseCell 2 ⟨rs, true⟩) = (cl, q5)) := Lib.hid (by rw [hcl]; have e1 := H_g1.out; have e2 := H_g2.out; have e5 := H_g5.out; simp only [parseCell, e1, e2, show ¬ (2 : Int) = 1 by decide, if_false, true_or, if_true, e5])
        have hb1 : (((W156.setCell ⟨W136.heap.size, 3, none⟩ (.int .i64 pg)).alloc (.cells #[vs ky, .int .i64 0, .string { data := #[] }, .int .i64 pg] 144))).heap[W156.heap.size]? = some (.cells #[vs cl.key, .int .i64 cl.size, vs cl.loc, .int .i64 cl.page] 144) := by rw [hcl]; exact H_tmp_179.out
        have H_hb1 := Lib.hid hb1
        clear hb1
        have HSMc : Hid (cl.key.length ≤ 1000000 ∧ cl.loc.length ≤ 1000000) := Lib.hid (by rw [hcl]; have := HBD.out; have := H_Fg1.out; have := H_Fg2.out; have := H_Fg5.out; simp only [List.length_nil] at *; omega)
        clear hcl
        have HL182 := Lib.hid (lt_of_block H_res_175.out)
        have HL183 := Lib.hid (lt_of_block H_rest_176.out)
        have HL184 := Lib.hid (lt_of_block H_node_177.out)
        have HL185 := Lib.hid (lt_of_block H_tc_178.out)
        have HL186 := Lib.hid (lt_of_block H_tmp_179.out)
        go_wp2_with (at_builtin; refine wpList_append_own _ rfl _ _ 148 rfl W40.heap.size 144 i0 _ 4 48 Tryz.underlying148 hi0 hz0 hz1 hz2 rfl (by decide) v _ _ rfl H_row_180.out ⟨W156.heap.size, 0, none⟩ 1 1 (cellCells cl) rfl rfl ?c187a ?c187b ?c187c ?c187d ?c187e ?_)
        clear c_tc_0 c_tc_1 c_tc_2 c_tc_3 f_tc_3 c_node_0 c_node_2 p_node_0 p_node_2
        case c187a => exact cells_one _ _ _ H_hb1.out
        case c187b => intro u hu; simp only [cellCells, List.mem_cons, List.mem_singleton, List.not_mem_nil, or_false] at hu; rcases hu with rfl | rfl | rfl | rfl <;> rfl
        case c187c => have := HBD.out; simp only [maxLen]; omega
        case c187d => have := HBD.out; omega
        case c187e => have := HCH.out.size; have := HE181.out.size; omega
        intro v' W188 hown hgrow hnil
        clear hnil
        have H_rest_189 := Lib.hid (grown_get H_row_180.out hgrow H_rest_176.out (by have := HL12.out; have := HL13.out; have := HL32.out; have := HL33.out; have := HL34.out; have := HL41.out; have := HL42.out; have := HL43.out; have := HCZ.out; have := HZ130.out; have := HZ138.out; have := HL144.out; have := HL145.out; have := HL146.out; have := HZ148.out; have := HZ158.out; have := HL165.out; have := HL166.out; have := HL167.out; have := HL168.out; have := HL169.out; have := HL170.out; have := HL171.out; have := HL172.out; have := HZ174.out; have := HL182.out; have := HL183.out; have := HL184.out; have := HL185.out; have := HL186.out; omega))
        have H_node_190 := Lib.hid (grown_get H_row_180.out hgrow H_node_177.out (by have := HL12.out; have := HL13.out; have := HL32.out; have := HL33.out; have := HL34.out; have := HL41.out; have := HL42.out; have := HL43.out; have := HCZ.out; have := HZ130.out; have := HZ138.out; have := HL144.out; have := HL145.out; have := HL146.out; have := HZ148.out; have := HZ158.out; have := HL165.out; have := HL166.out; have := HL167.out; have := HL168.out; have := HL169.out; have := HL170.out; have := HL171.out; have := HL172.out; have := HZ174.out; have := HL182.out; have := HL183.out; have := HL184.out; have := HL185.out; have := HL186.out; omega))
        have H_res_191 := Lib.hid (grown_get H_row_180.out hgrow H_res_175.out (by have := HL12.out; have := HL13.out; have := HL32.out; have := HL33.out; have := HL34.out; have := HL41.out; have := HL42.out; have := HL43.out; have := HCZ.out; have := HZ130.out; have := HZ138.out; have := HL144.out; have := HL145.out; have := HL146.out; have := HZ148.out; have := HZ158.out; have := HL165.out; have := HL166.out; have := HL167.out; have := HL168.out; have := HL169.out; have := HL170.out; have := HL171.out; have := HL172.out; have := HZ174.out; have := HL182.out; have := HL183.out; have := HL184.out; have := HL185.out; have := HL186.out; omega))
        have HE192 := Lib.hid (grown_eff HE181.out H_row_180.out hgrow (Nat.le_refl _))
        have HOW := Lib.hid (crow_snoc hown)
        clear hown hgrow
        obtain ⟨sb, scb, hv'⟩ := (rowCells HOW.out).slice
        have hv2 : v' = .slice sb (acc.length + 1) scb := by rw [hv']; simp
        subst hv2
        clear hv'
        have c_node_2 : W188.cell? ⟨W7.heap.size, 2, none⟩ = some (v) := cellAt H_node_190.out 2
        have f_node_2 : W188.frozen? ⟨W7.heap.size, 2, none⟩ = false := freeAt H_node_190.out 2
        go_wp2_with fail
        clear c_node_2 f_node_2
        have HL193 := Lib.hid (lt_of_block H_res_191.out)
        have HL194 := Lib.hid (lt_of_block H_rest_189.out)
        have HL195 := Lib.hid (lt_of_block H_node_190.out)
        have hC196 : Hid (Chg [W7.heap.size] W188 (W188.setCell ⟨W7.heap.size, 2, none⟩ (.slice sb (acc.length + 1) scb))) := Lib.hid ((Chg.refl [W7.heap.size] W188).setCell (.inl (by simp)) (.slice sb (acc.length + 1) scb))
        have HZ197 := Lib.hid hC196.out.size
        have H_res_198 : Hid ((W188.setCell ⟨W7.heap.size, 2, none⟩ (.slice sb (acc.length + 1) scb)).heap[w.heap.size]? = some (.cells #[.int .u8 0, .int .i64 0, .slice none 0 0, .string { data := #[] }] 150)) := Lib.hid ((setOff 2 (.slice sb (acc.length + 1) scb) (by have := HL12.out; have := HL13.out; have := HL32.out; have := HL33.out; have := HL34.out; have := HL41.out; have := HL42.out; have := HL43.out; have := HCZ.out; have := HZ130.out; have := HZ138.out; have := HL144.out; have := HL145.out; have := HL146.out; have := HZ148.out; have := HZ158.out; have := HL165.out; have := HL166.out; have := HL167.out; have := HL168.out; have := HL169.out; have := HL170.out; have := HL171.out; have := HL172.out; have := HZ174.out; have := HL182.out; have := HL183.out; have := HL184.out; have := HL185.out; have := HL186.out; have := HL193.out; have := HL194.out; have := HL195.out; omega)).trans H_res_191.out)
        have H_rest_199 : Hid ((W188.setCell ⟨W7.heap.size, 2, none⟩ (.slice sb (acc.length + 1) scb)).heap[w.heap.size + 1]? = some (restO q5.s q5.ok)) := Lib.hid ((setOff 2 (.slice sb (acc.length + 1) scb) (by have := HL12.out; have := HL13.out; have := HL32.out; have := HL33.out; have := HL34.out; have := HL41.out; have := HL42.out; have := HL43.out; have := HCZ.out; have := HZ130.out; have := HZ138.out; have := HL144.out; have := HL145.out; have := HL146.out; have := HZ148.out; have := HZ158.out; have := HL165.out; have := HL166.out; have := HL167.out; have := HL168.out; have := HL169.out; have := HL170.out; have := HL171.out; have := HL172.out; have := HZ174.out; have := HL182.out; have := HL183.out; have := HL184.out; have := HL185.out; have := HL186.out; have := HL193.out; have := HL194.out; have := HL195.out; omega)).trans H_rest_189.out)
        have H_node_200 : Hid ((W188.setCell ⟨W7.heap.size, 2, none⟩ (.slice sb (acc.length + 1) scb)).heap[W7.heap.size]? = some (.cells #[.int .u8 2, .int .i64 f, .slice sb (acc.length + 1) scb, .string { data := #[] }] 150)) := Lib.hid (setAt H_node_190.out 2 (.slice sb (acc.length + 1) scb))
        have H_row_201 := Lib.hid (ownsRow_chg HOW.out hC196.out (by intro k hk; have := HL12.out; have := HL13.out; have := HL32.out; have := HL33.out; have := HL34.out; have := HL41.out; have := HL42.out; have := HL43.out; have := HCZ.out; have := HZ130.out; have := HZ138.out; have := HL144.out; have := HL145.out; have := HL146.out; have := HZ148.out; have := HZ158.out; have := HL165.out; have := HL166.out; have := HL167.out; have := HL168.out; have := HL169.out; have := HL170.out; have := HL171.out; have := HL172.out; have := HZ174.out; have := HL182.out; have := HL183.out; have := HL184.out; have := HL185.out; have := HL186.out; have := HL193.out; have := HL194.out; have := HL195.out; have := HZ197.out; simp only [List.mem_cons, List.mem_singleton, List.not_mem_nil, or_false] at hk; omega))
        have HE202 := Lib.hid (HE192.out.after hC196.out (by intro k hk; have := HL12.out; have := HL13.out; have := HL32.out; have := HL33.out; have := HL34.out; have := HL41.out; have := HL42.out; have := HL43.out; have := HCZ.out; have := HZ130.out; have := HZ138.out; have := HL144.out; have := HL145.out; have := HL146.out; have := HZ148.out; have := HZ158.out; have := HL165.out; have := HL166.out; have := HL167.out; have := HL168.out; have := HL169.out; have := HL170.out; have := HL171.out; have := HL172.out; have := HZ174.out; have := HL182.out; have := HL183.out; have := HL184.out; have := HL185.out; have := HL186.out; have := HL193.out; have := HL194.out; have := HL195.out; have := HZ197.out; simp only [List.mem_cons, List.mem_singleton, List.not_mem_nil, or_false] at hk ⊢; omega))
        generalize (W188.setCell ⟨W7.heap.size, 2, none⟩ (.slice sb (acc.length + 1) scb)) = W203 at *
        skip
        go_roundw
        case rel => exact ⟨j + 1, _, q5, acc ++ [cl], by go_num, by omega, Lib.hid (by have := HAL.out; simp; omega), Lib.hid (by have h := HPC2.out; rw [HCL.out] at h; rw [show m.toNat - (j + 1) = m.toNat - j - 1 by omega]; exact h), Lib.hid (by have := HBD.out; have := HAL.out; have := H_Fg1.out; have := H_Fg2.out; have := H_Fg5.out; simp only [List.length_append, List.length_cons, List.length_nil] at *; refine ⟨fun hk => ?_, ?_, ?_⟩ <;> grind), Lib.hid (by intro c hc; rcases List.mem_append.1 hc with h | h; exact HSM.out c h; simp only [List.mem_singleton] at h; rw [h]; exact HSMc.out), HE202, H_rest_199, H_node_200, H_row_201⟩
        case measure => have := HLT.out; simp only [intOf]; omega
      ·
        have hjm : m.toNat - j = 0 := by omega
        have HPE : Hid ((acc, (⟨rs, true⟩ : RestM)) = R) := Lib.hid (by rw [← HPC.out, hjm]; rfl)
        clear hjm
        obtain ⟨sa, scap, rfl⟩ := (rowCells HRW.out).slice
        have c_rest_1 : wr.cell? ⟨w.heap.size + 1, 1, none⟩ = some (.bool true) := cellAt HRE.out 1
        have c_node_0 : wr.cell? ⟨W7.heap.size, 0, none⟩ = some (.int .u8 2) := cellAt HNO.out 0
        have c_node_1 : wr.cell? ⟨W7.heap.size, 1, none⟩ = some (.int .i64 f) := cellAt HNO.out 1
        have c_node_2 : wr.cell? ⟨W7.heap.size, 2, none⟩ = some (.slice sa acc.length scap) := cellAt HNO.out 2
        have c_node_3 : wr.cell? ⟨W7.heap.size, 3, none⟩ = some (.string { data := #[] }) := cellAt HNO.out 3
        go_wp2_with fail
        clear c_rest_1 c_node_0 c_node_1 c_node_2 c_node_3
        have HEF := Lib.hid (HE39.out.after HCH.out (by intro k hk; have := HL12.out; have := HL13.out; have := HL32.out; have := HL33.out; have := HL34.out; have := HL41.out; have := HL42.out; have := HL43.out; have := HCZ.out; simp only [List.mem_cons, List.mem_singleton, List.not_mem_nil, or_false] at hk ⊢; omega))
        have hpx : parseN p = (⟨2, f, acc, []⟩ : NodeM) := by have h1 := H_h1.out; have h2 := H_h2.out; have h3 := H_h3.out; have hh : parseN p = ⟨2, f, (parseCells 2 m.toNat r3 []).1, []⟩ := (by unfold parseN; simp [h1, h2, h3]); rw [hh, ← H_hR.out, ← HPE.out]
        have hcr : CRow wr W40.heap.size (.slice sa acc.length scap) acc := HRW.out
        have hsm : Small (⟨2, f, acc, []⟩ : NodeM) := ⟨by have := HBD.out; simp only; omega, by simp, HSM.out⟩
        have H_hpx := Lib.hid hpx
        have H_hcr := Lib.hid hcr
        have H_hsm := Lib.hid hsm
        clear hpx hcr hsm
        go_at_call 124; refine (nput_any (⟨2, f, acc, []⟩ : NodeM) _ _ (rowCells H_hcr.out) H_hsm.out).mono ?_; rintro e W204 ⟨rfl, hb⟩
        have hC205 := Lib.hid (Chg.of_below hb [])
        have HZ206 := Lib.hid hC205.out.size
        have H_res_207 := Lib.hid (hC205.out.get H_res_127.out (by simp))
        have H_rest_208 := Lib.hid (hC205.out.get HRE.out (by simp))
        have H_node_209 := Lib.hid (hC205.out.get HNO.out (by simp))
        have H_crow_210 := Lib.hid (ownsRow_chg H_hcr.out hC205.out (by simp))
        have HE211 := Lib.hid (HEF.out.after hC205.out (by simp))
        clear hb
        rcases hp : putN (⟨2, f, acc, []⟩ : NodeM) with ⟨q, z⟩
        have HP := Lib.hid hp
        clear hp
        simp only
        by_cases hz : z = 0
        ·
          subst hz
          by_cases hq : q = p
          ·
            subst hq
            have hpe : (q != q) = false := by simp
            have htk : takeN q = some (⟨2, f, acc, []⟩ : NodeM) := by
              unfold takeN
              rw [if_neg (by rw [HSZ.out]; simp), H_hpx.out, HP.out, if_pos rfl]
            have HTK := Lib.hid htk
            clear htk
            have c_node_0 : W204.cell? ⟨W7.heap.size, 0, none⟩ = some (.int .u8 2) := cellAt H_node_209.out 0
            have c_node_1 : W204.cell? ⟨W7.heap.size, 1, none⟩ = some (.int .i64 f) := cellAt H_node_209.out 1
            have c_node_2 : W204.cell? ⟨W7.heap.size, 2, none⟩ = some (.slice sa acc.length scap) := cellAt H_node_209.out 2
            have c_node_3 : W204.cell? ⟨W7.heap.size, 3, none⟩ = some (.string { data := #[] }) := cellAt H_node_209.out 3
            have c_res_0 : W204.cell? ⟨w.heap.size, 0, none⟩ = some (.int .u8 0) := cellAt H_res_207.out 0
            have c_res_1 : W204.cell? ⟨w.heap.size, 1, none⟩ = some (.int .i64 0) := cellAt H_res_207.out 1
            have c_res_2 : W204.cell? ⟨w.heap.size, 2, none⟩ = some (.slice none 0 0) := cellAt H_res_207.out 2
            have c_res_3 : W204.cell? ⟨w.heap.size, 3, none⟩ = some (.string { data := #[] }) := cellAt H_res_207.out 3
            have f_res_0 : W204.frozen? ⟨w.heap.size, 0, none⟩ = false := freeAt H_res_207.out 0
            have f_res_1 : W204.frozen? ⟨w.heap.size, 1, none⟩ = false := freeAt H_res_207.out 1
            have f_res_2 : W204.frozen? ⟨w.heap.size, 2, none⟩ = false := freeAt H_res_207.out 2
            have f_res_3 : W204.frozen? ⟨w.heap.size, 3, none⟩ = false := freeAt H_res_207.out 3
            go_wp2_with fail
            clear c_node_0 c_node_1 c_node_2 c_node_3 c_res_0 c_res_1 c_res_2 c_res_3 f_res_0 f_res_1 f_res_2 f_res_3
            have HL212 := Lib.hid (lt_of_block H_res_207.out)
            have HL213 := Lib.hid (lt_of_block H_rest_208.out)
            have HL214 := Lib.hid (lt_of_block H_node_209.out)
            have hC215 : Hid (Chg [w.heap.size] W204 ((((W204.setCell ⟨w.heap.size, 0, none⟩ (.int .u8 2)).setCell ⟨w.heap.size, 1, none⟩ (.int .i64 f)).setCell ⟨w.heap.size, 2, none⟩ (.slice sa acc.length scap)).setCell ⟨w.heap.size, 3, none⟩ (vs []))) := Lib.hid (((((Chg.refl [w.heap.size] W204).setCell (.inl (by simp)) (.int .u8 2)).setCell (.inl (by simp)) (.int .i64 f)).setCell (.inl (by simp)) (.slice sa acc.length scap)).setCell (.inl (by simp)) (vs []))
            have HZ216 := Lib.hid hC215.out.size
            have H_res_217 : Hid (((((W204.setCell ⟨w.heap.size, 0, none⟩ (.int .u8 2)).setCell ⟨w.heap.size, 1, none⟩ (.int .i64 f)).setCell ⟨w.heap.size, 2, none⟩ (.slice sa acc.length scap)).setCell ⟨w.heap.size, 3, none⟩ (vs [])).heap[w.heap.size]? = some (.cells #[.int .u8 2, .int .i64 f, .slice sa acc.length scap, vs []] 150)) := Lib.hid (setAt (setAt (setAt (setAt H_res_207.out 0 (.int .u8 2)) 1 (.int .i64 f)) 2 (.slice sa acc.length scap)) 3 (vs []))
            have H_rest_218 : Hid (((((W204.setCell ⟨w.heap.size, 0, none⟩ (.int .u8 2)).setCell ⟨w.heap.size, 1, none⟩ (.int .i64 f)).setCell ⟨w.heap.size, 2, none⟩ (.slice sa acc.length scap)).setCell ⟨w.heap.size, 3, none⟩ (vs [])).heap[w.heap.size + 1]? = some (restO rs true)) := Lib.hid ((setOff 3 (vs []) (by have := HL12.out; have := HL13.out; have := HL32.out; have := HL33.out; have := HL34.out; have := HL41.out; have := HL42.out; have := HL43.out; have := HCZ.out; have := HZ206.out; have := HL212.out; have := HL213.out; have := HL214.out; omega)).trans ((setOff 2 (.slice sa acc.length scap) (by have := HL12.out; have := HL13.out; have := HL32.out; have := HL33.out; have := HL34.out; have := HL41.out; have := HL42.out; have := HL43.out; have := HCZ.out; have := HZ206.out; have := HL212.out; have := HL213.out; have := HL214.out; omega)).trans ((setOff 1 (.int .i64 f) (by have := HL12.out; have := HL13.out; have := HL32.out; have := HL33.out; have := HL34.out; have := HL41.out; have := HL42.out; have := HL43.out; have := HCZ.out; have := HZ206.out; have := HL212.out; have := HL213.out; have := HL214.out; omega)).trans ((setOff 0 (.int .u8 2) (by have := HL12.out; have := HL13.out; have := HL32.out; have := HL33.out; have := HL34.out; have := HL41.out; have := HL42.out; have := HL43.out; have := HCZ.out; have := HZ206.out; have := HL212.out; have := HL213.out; have := HL214.out; omega)).trans H_rest_208.out))))
            have H_node_219 : Hid (((((W204.setCell ⟨w.heap.size, 0, none⟩ (.int .u8 2)).setCell ⟨w.heap.size, 1, none⟩ (.int .i64 f)).setCell ⟨w.heap.size, 2, none⟩ (.slice sa acc.length scap)).setCell ⟨w.heap.size, 3, none⟩ (vs [])).heap[W7.heap.size]? = some (.cells #[.int .u8 2, .int .i64 f, .slice sa acc.length scap, .string { data := #[] }] 150)) := Lib.hid ((setOff 3 (vs []) (by have := HL12.out; have := HL13.out; have := HL32.out; have := HL33.out; have := HL34.out; have := HL41.out; have := HL42.out; have := HL43.out; have := HCZ.out; have := HZ206.out; have := HL212.out; have := HL213.out; have := HL214.out; omega)).trans ((setOff 2 (.slice sa acc.length scap) (by have := HL12.out; have := HL13.out; have := HL32.out; have := HL33.out; have := HL34.out; have := HL41.out; have := HL42.out; have := HL43.out; have := HCZ.out; have := HZ206.out; have := HL212.out; have := HL213.out; have := HL214.out; omega)).trans ((setOff 1 (.int .i64 f) (by have := HL12.out; have := HL13.out; have := HL32.out; have := HL33.out; have := HL34.out; have := HL41.out; have := HL42.out; have := HL43.out; have := HCZ.out; have := HZ206.out; have := HL212.out; have := HL213.out; have := HL214.out; omega)).trans ((setOff 0 (.int .u8 2) (by have := HL12.out; have := HL13.out; have := HL32.out; have := HL33.out; have := HL34.out; have := HL41.out; have := HL42.out; have := HL43.out; have := HCZ.out; have := HZ206.out; have := HL212.out; have := HL213.out; have := HL214.out; omega)).trans H_node_209.out))))
            have H_crow_220 := Lib.hid (ownsRow_chg H_crow_210.out hC215.out (by intro k hk; have := HL12.out; have := HL13.out; have := HL32.out; have := HL33.out; have := HL34.out; have := HL41.out; have := HL42.out; have := HL43.out; have := HCZ.out; have := HZ206.out; have := HL212.out; have := HL213.out; have := HL214.out; have := HZ216.out; simp only [List.mem_cons, List.mem_singleton, List.not_mem_nil, or_false] at hk; omega))
            have HE221 := Lib.hid (HE211.out.after hC215.out (by intro k hk; have := HL12.out; have := HL13.out; have := HL32.out; have := HL33.out; have := HL34.out; have := HL41.out; have := HL42.out; have := HL43.out; have := HCZ.out; have := HZ206.out; have := HL212.out; have := HL213.out; have := HL214.out; have := HZ216.out; simp only [List.mem_cons, List.mem_singleton, List.not_mem_nil, or_false] at hk ⊢; omega))
            generalize ((((W204.setCell ⟨w.heap.size, 0, none⟩ (.int .u8 2)).setCell ⟨w.heap.size, 1, none⟩ (.int .i64 f)).setCell ⟨w.heap.size, 2, none⟩ (.slice sa acc.length scap)).setCell ⟨w.heap.size, 3, none⟩ (vs [])) = W222 at *
            have c_res_0 : W222.cell? ⟨w.heap.size, 0, none⟩ = some (.int .u8 2) := cellAt H_res_217.out 0
            have c_res_1 : W222.cell? ⟨w.heap.size, 1, none⟩ = some (.int .i64 f) := cellAt H_res_217.out 1
            have c_res_2 : W222.cell? ⟨w.heap.size, 2, none⟩ = some (.slice sa acc.length scap) := cellAt H_res_217.out 2
            have c_res_3 : W222.cell? ⟨w.heap.size, 3, none⟩ = some (vs []) := cellAt H_res_217.out 3
            exact bodyPost_ret (v := .tuple #[.agg #[.int .u8 2, .int .i64 f, .slice sa acc.length scap, vs []], .int .i64 0]) (by simp [results, Tryz.results123, go_sem, c_res_0, c_res_1, c_res_2, c_res_3]; try rfl) rfl (TakePost.mk (.slice sa acc.length scap) (by rw [HTK.out]; rfl) (by rw [HTK.out]; exact ownsRow_low H_crow_220.out (by have := HL12.out; have := HL13.out; have := HL32.out; have := HL33.out; have := HL34.out; have := HL41.out; have := HL42.out; have := HL43.out; have := HCZ.out; have := HE39.out.size; omega)) (HE221.out.to_below (Nat.le_refl _) (by simp)))
          ·
            have hpe : (q != p) = true := by simpa using hq
            have hpe2 : (q == p) = false := by simpa using hq
            have htk : takeN p = none := by
              unfold takeN
              rw [if_neg (by rw [HSZ.out]; simp), H_hpx.out, HP.out, if_neg (by simp [*])]
            have HTK := Lib.hid htk
            clear htk
            have c_res_0 : W204.cell? ⟨w.heap.size, 0, none⟩ = some (.int .u8 0) := cellAt H_res_207.out 0
            have c_res_1 : W204.cell? ⟨w.heap.size, 1, none⟩ = some (.int .i64 0) := cellAt H_res_207.out 1
            have c_res_2 : W204.cell? ⟨w.heap.size, 2, none⟩ = some (.slice none 0 0) := cellAt H_res_207.out 2
            have c_res_3 : W204.cell? ⟨w.heap.size, 3, none⟩ = some (.string { data := #[] }) := cellAt H_res_207.out 3
            have f_res_0 : W204.frozen? ⟨w.heap.size, 0, none⟩ = false := freeAt H_res_207.out 0
            have f_res_1 : W204.frozen? ⟨w.heap.size, 1, none⟩ = false := freeAt H_res_207.out 1
            have f_res_2 : W204.frozen? ⟨w.heap.size, 2, none⟩ = false := freeAt H_res_207.out 2
            have f_res_3 : W204.frozen? ⟨w.heap.size, 3, none⟩ = false := freeAt H_res_207.out 3
            go_wp2_with fail
            clear c_res_0 c_res_1 c_res_2 c_res_3 f_res_0 f_res_1 f_res_2 f_res_3
            have HL223 := Lib.hid (lt_of_block H_res_207.out)
            have HL224 := Lib.hid (lt_of_block H_rest_208.out)
            have HL225 := Lib.hid (lt_of_block H_node_209.out)
            have hC226 : Hid (Chg [w.heap.size] W204 ((((W204.setCell ⟨w.heap.size, 0, none⟩ (.int .u8 0)).setCell ⟨w.heap.size, 1, none⟩ (.int .i64 0)).setCell ⟨w.heap.size, 2, none⟩ (.slice none 0 0)).setCell ⟨w.heap.size, 3, none⟩ (.string { data := #[] }))) := Lib.hid (((((Chg.refl [w.heap.size] W204).setCell (.inl (by simp)) (.int .u8 0)).setCell (.inl (by simp)) (.int .i64 0)).setCell (.inl (by simp)) (.slice none 0 0)).setCell (.inl (by simp)) (.string { data := #[] }))
            have HZ227 := Lib.hid hC226.out.size
            have H_res_228 : Hid (((((W204.setCell ⟨w.heap.size, 0, none⟩ (.int .u8 0)).setCell ⟨w.heap.size, 1, none⟩ (.int .i64 0)).setCell ⟨w.heap.size, 2, none⟩ (.slice none 0 0)).setCell ⟨w.heap.size, 3, none⟩ (.string { data := #[] })).heap[w.heap.size]? = some (.cells #[.int .u8 0, .int .i64 0, .slice none 0 0, .string { data := #[] }] 150)) := Lib.hid (setAt (setAt (setAt (setAt H_res_207.out 0 (.int .u8 0)) 1 (.int .i64 0)) 2 (.slice none 0 0)) 3 (.string { data := #[] }))
            have H_rest_229 : Hid (((((W204.setCell ⟨w.heap.size, 0, none⟩ (.int .u8 0)).setCell ⟨w.heap.size, 1, none⟩ (.int .i64 0)).setCell ⟨w.heap.size, 2, none⟩ (.slice none 0 0)).setCell ⟨w.heap.size, 3, none⟩ (.string { data := #[] })).heap[w.heap.size + 1]? = some (restO rs true)) := Lib.hid ((setOff 3 (.string { data := #[] }) (by have := HL12.out; have := HL13.out; have := HL32.out; have := HL33.out; have := HL34.out; have := HL41.out; have := HL42.out; have := HL43.out; have := HCZ.out; have := HZ206.out; have := HL223.out; have := HL224.out; have := HL225.out; omega)).trans ((setOff 2 (.slice none 0 0) (by have := HL12.out; have := HL13.out; have := HL32.out; have := HL33.out; have := HL34.out; have := HL41.out; have := HL42.out; have := HL43.out; have := HCZ.out; have := HZ206.out; have := HL223.out; have := HL224.out; have := HL225.out; omega)).trans ((setOff 1 (.int .i64 0) (by have := HL12.out; have := HL13.out; have := HL32.out; have := HL33.out; have := HL34.out; have := HL41.out; have := HL42.out; have := HL43.out; have := HCZ.out; have := HZ206.out; have := HL223.out; have := HL224.out; have := HL225.out; omega)).trans ((setOff 0 (.int .u8 0) (by have := HL12.out; have := HL13.out; have := HL32.out; have := HL33.out; have := HL34.out; have := HL41.out; have := HL42.out; have := HL43.out; have := HCZ.out; have := HZ206.out; have := HL223.out; have := HL224.out; have := HL225.out; omega)).trans H_rest_208.out))))
            have H_node_230 : Hid (((((W204.setCell ⟨w.heap.size, 0, none⟩ (.int .u8 0)).setCell ⟨w.heap.size, 1, none⟩ (.int .i64 0)).setCell ⟨w.heap.size, 2, none⟩ (.slice none 0 0)).setCell ⟨w.heap.size, 3, none⟩ (.string { data := #[] })).heap[W7.heap.size]? = some (.cells #[.int .u8 2, .int .i64 f, .slice sa acc.length scap, .string { data := #[] }] 150)) := Lib.hid ((setOff 3 (.string { data := #[] }) (by have := HL12.out; have := HL13.out; have := HL32.out; have := HL33.out; have := HL34.out; have := HL41.out; have := HL42.out; have := HL43.out; have := HCZ.out; have := HZ206.out; have := HL223.out; have := HL224.out; have := HL225.out; omega)).trans ((setOff 2 (.slice none 0 0) (by have := HL12.out; have := HL13.out; have := HL32.out; have := HL33.out; have := HL34.out; have := HL41.out; have := HL42.out; have := HL43.out; have := HCZ.out; have := HZ206.out; have := HL223.out; have := HL224.out; have := HL225.out; omega)).trans ((setOff 1 (.int .i64 0) (by have := HL12.out; have := HL13.out; have := HL32.out; have := HL33.out; have := HL34.out; have := HL41.out; have := HL42.out; have := HL43.out; have := HCZ.out; have := HZ206.out; have := HL223.out; have := HL224.out; have := HL225.out; omega)).trans ((setOff 0 (.int .u8 0) (by have := HL12.out; have := HL13.out; have := HL32.out; have := HL33.out; have := HL34.out; have := HL41.out; have := HL42.out; have := HL43.out; have := HCZ.out; have := HZ206.out; have := HL223.out; have := HL224.out; have := HL225.out; omega)).trans H_node_209.out))))
            have H_crow_231 := Lib.hid (ownsRow_chg H_crow_210.out hC226.out (by intro k hk; have := HL12.out; have := HL13.out; have := HL32.out; have := HL33.out; have := HL34.out; have := HL41.out; have := HL42.out; have := HL43.out; have := HCZ.out; have := HZ206.out; have := HL223.out; have := HL224.out; have := HL225.out; have := HZ227.out; simp only [List.mem_cons, List.mem_singleton, List.not_mem_nil, or_false] at hk; omega))
            have HE232 := Lib.hid (HE211.out.after hC226.out (by intro k hk; have := HL12.out; have := HL13.out; have := HL32.out; have := HL33.out; have := HL34.out; have := HL41.out; have := HL42.out; have := HL43.out; have := HCZ.out; have := HZ206.out; have := HL223.out; have := HL224.out; have := HL225.out; have := HZ227.out; simp only [List.mem_cons, List.mem_singleton, List.not_mem_nil, or_false] at hk ⊢; omega))
            generalize ((((W204.setCell ⟨w.heap.size, 0, none⟩ (.int .u8 0)).setCell ⟨w.heap.size, 1, none⟩ (.int .i64 0)).setCell ⟨w.heap.size, 2, none⟩ (.slice none 0 0)).setCell ⟨w.heap.size, 3, none⟩ (.string { data := #[] })) = W233 at *
            have c_res_0 : W233.cell? ⟨w.heap.size, 0, none⟩ = some (.int .u8 0) := cellAt H_res_228.out 0
            have c_res_1 : W233.cell? ⟨w.heap.size, 1, none⟩ = some (.int .i64 0) := cellAt H_res_228.out 1
            have c_res_2 : W233.cell? ⟨w.heap.size, 2, none⟩ = some (.slice none 0 0) := cellAt H_res_228.out 2
            have c_res_3 : W233.cell? ⟨w.heap.size, 3, none⟩ = some (.string { data := #[] }) := cellAt H_res_228.out 3
            exact bodyPost_ret (v := .tuple #[.agg #[.int .u8 0, .int .i64 0, .slice none 0 0, .string { data := #[] }], .int .i64 7]) (by simp [results, Tryz.results123, go_sem, c_res_0, c_res_1, c_res_2, c_res_3]; try rfl) rfl (TakePost.mk (.slice none 0 0) (by rw [HTK.out]; rfl) (by rw [HTK.out]; exact World.ownsRow_nil _ _ _ _) (HE232.out.to_below (Nat.le_refl _) (by simp)))
        ·
          have hz1 : (z == 0) = false := by simpa using hz
          have hz2 : (z != 0) = true := by simpa using hz
          have htk : takeN p = none := by
            unfold takeN
            rw [if_neg (by rw [HSZ.out]; simp), H_hpx.out, HP.out, if_neg (by simp [*])]
          have HTK := Lib.hid htk
          clear htk
          have c_res_0 : W204.cell? ⟨w.heap.size, 0, none⟩ = some (.int .u8 0) := cellAt H_res_207.out 0
          have c_res_1 : W204.cell? ⟨w.heap.size, 1, none⟩ = some (.int .i64 0) := cellAt H_res_207.out 1
          have c_res_2 : W204.cell? ⟨w.heap.size, 2, none⟩ = some (.slice none 0 0) := cellAt H_res_207.out 2
          have c_res_3 : W204.cell? ⟨w.heap.size, 3, none⟩ = some (.string { data := #[] }) := cellAt H_res_207.out 3
          have f_res_0 : W204.frozen? ⟨w.heap.size, 0, none⟩ = false := freeAt H_res_207.out 0
          have f_res_1 : W204.frozen? ⟨w.heap.size, 1, none⟩ = false := freeAt H_res_207.out 1
          have f_res_2 : W204.frozen? ⟨w.heap.size, 2, none⟩ = false := freeAt H_res_207.out 2
          have f_res_3 : W204.frozen? ⟨w.heap.size, 3, none⟩ = false := freeAt H_res_207.out 3
          go_wp2_with fail
          clear c_res_0 c_res_1 c_res_2 c_res_3 f_res_0 f_res_1 f_res_2 f_res_3
          have HL234 := Lib.hid (lt_of_block H_res_207.out)
          have HL235 := Lib.hid (lt_of_block H_rest_208.out)
          have HL236 := Lib.hid (lt_of_block H_node_209.out)
          have hC237 : Hid (Chg [w.heap.size] W204 ((((W204.setCell ⟨w.heap.size, 0, none⟩ (.int .u8 0)).setCell ⟨w.heap.size, 1, none⟩ (.int .i64 0)).setCell ⟨w.heap.size, 2, none⟩ (.slice none 0 0)).setCell ⟨w.heap.size, 3, none⟩ (.string { data := #[] }))) := Lib.hid (((((Chg.refl [w.heap.size] W204).setCell (.inl (by simp)) (.int .u8 0)).setCell (.inl (by simp)) (.int .i64 0)).setCell (.inl (by simp)) (.slice none 0 0)).setCell (.inl (by simp)) (.string { data := #[] }))
          have HZ238 := Lib.hid hC237.out.size
          have H_res_239 : Hid (((((W204.setCell ⟨w.heap.size, 0, none⟩ (.int .u8 0)).setCell ⟨w.heap.size, 1, none⟩ (.int .i64 0)).setCell ⟨w.heap.size, 2, none⟩ (.slice none 0 0)).setCell ⟨w.heap.size, 3, none⟩ (.string { data := #[] })).heap[w.heap.size]? = some (.cells #[.int .u8 0, .int .i64 0, .slice none 0 0, .string { data := #[] }] 150)) := Lib.hid (setAt (setAt (setAt (setAt H_res_207.out 0 (.int .u8 0)) 1 (.int .i64 0)) 2 (.slice none 0 0)) 3 (.string { data := #[] }))
          have H_rest_240 : Hid (((((W204.setCell ⟨w.heap.size, 0, none⟩ (.int .u8 0)).setCell ⟨w.heap.size, 1, none⟩ (.int .i64 0)).setCell ⟨w.heap.size, 2, none⟩ (.slice none 0 0)).setCell ⟨w.heap.size, 3, none⟩ (.string { data := #[] })).heap[w.heap.size + 1]? = some (restO rs true)) := Lib.hid ((setOff 3 (.string { data := #[] }) (by have := HL12.out; have := HL13.out; have := HL32.out; have := HL33.out; have := HL34.out; have := HL41.out; have := HL42.out; have := HL43.out; have := HCZ.out; have := HZ206.out; have := HL234.out; have := HL235.out; have := HL236.out; omega)).trans ((setOff 2 (.slice none 0 0) (by have := HL12.out; have := HL13.out; have := HL32.out; have := HL33.out; have := HL34.out; have := HL41.out; have := HL42.out; have := HL43.out; have := HCZ.out; have := HZ206.out; have := HL234.out; have := HL235.out; have := HL236.out; omega)).trans ((setOff 1 (.int .i64 0) (by have := HL12.out; have := HL13.out; have := HL32.out; have := HL33.out; have := HL34.out; have := HL41.out; have := HL42.out; have := HL43.out; have := HCZ.out; have := HZ206.out; have := HL234.out; have := HL235.out; have := HL236.out; omega)).trans ((setOff 0 (.int .u8 0) (by have := HL12.out; have := HL13.out; have := HL32.out; have := HL33.out; have := HL34.out; have := HL41.out; have := HL42.out; have := HL43.out; have := HCZ.out; have := HZ206.out; have := HL234.out; have := HL235.out; have := HL236.out; omega)).trans H_rest_208.out))))
          have H_node_241 : Hid (((((W204.setCell ⟨w.heap.size, 0, none⟩ (.int .u8 0)).setCell ⟨w.heap.size, 1, none⟩ (.int .i64 0)).setCell ⟨w.heap.size, 2, none⟩ (.slice none 0 0)).setCell ⟨w.heap.size, 3, none⟩ (.string { data := #[] })).heap[W7.heap.size]? = some (.cells #[.int .u8 2, .int .i64 f, .slice sa acc.length scap, .string { data := #[] }] 150)) := Lib.hid ((setOff 3 (.string { data := #[] }) (by have := HL12.out; have := HL13.out; have := HL32.out; have := HL33.out; have := HL34.out; have := HL41.out; have := HL42.out; have := HL43.out; have := HCZ.out; have := HZ206.out; have := HL234.out; have := HL235.out; have := HL236.out; omega)).trans ((setOff 2 (.slice none 0 0) (by have := HL12.out; have := HL13.out; have := HL32.out; have := HL33.out; have := HL34.out; have := HL41.out; have := HL42.out; have := HL43.out; have := HCZ.out; have := HZ206.out; have := HL234.out; have := HL235.out; have := HL236.out; omega)).trans ((setOff 1 (.int .i64 0) (by have := HL12.out; have := HL13.out; have := HL32.out; have := HL33.out; have := HL34.out; have := HL41.out; have := HL42.out; have := HL43.out; have := HCZ.out; have := HZ206.out; have := HL234.out; have := HL235.out; have := HL236.out; omega)).trans ((setOff 0 (.int .u8 0) (by have := HL12.out; have := HL13.out; have := HL32.out; have := HL33.out; have := HL34.out; have := HL41.out; have := HL42.out; have := HL43.out; have := HCZ.out; have := HZ206.out; have := HL234.out; have := HL235.out; have := HL236.out; omega)).trans H_node_209.out))))
          have H_crow_242 := Lib.hid (ownsRow_chg H_crow_210.out hC237.out (by intro k hk; have := HL12.out; have := HL13.out; have := HL32.out; have := HL33.out; have := HL34.out; have := HL41.out; have := HL42.out; have := HL43.out; have := HCZ.out; have := HZ206.out; have := HL234.out; have := HL235.out; have := HL236.out; have := HZ238.out; simp only [List.mem_cons, List.mem_singleton, List.not_mem_nil, or_false] at hk; omega))
          have HE243 := Lib.hid (HE211.out.after hC237.out (by intro k hk; have := HL12.out; have := HL13.out; have := HL32.out; have := HL33.out; have := HL34.out; have := HL41.out; have := HL42.out; have := HL43.out; have := HCZ.out; have := HZ206.out; have := HL234.out; have := HL235.out; have := HL236.out; have := HZ238.out; simp only [List.mem_cons, List.mem_singleton, List.not_mem_nil, or_false] at hk ⊢; omega))
          generalize ((((W204.setCell ⟨w.heap.size, 0, none⟩ (.int .u8 0)).setCell ⟨w.heap.size, 1, none⟩ (.int .i64 0)).setCell ⟨w.heap.size, 2, none⟩ (.slice none 0 0)).setCell ⟨w.heap.size, 3, none⟩ (.string { data := #[] })) = W244 at *
          have c_res_0 : W244.cell? ⟨w.heap.size, 0, none⟩ = some (.int .u8 0) := cellAt H_res_239.out 0
          have c_res_1 : W244.cell? ⟨w.heap.size, 1, none⟩ = some (.int .i64 0) := cellAt H_res_239.out 1
          have c_res_2 : W244.cell? ⟨w.heap.size, 2, none⟩ = some (.slice none 0 0) := cellAt H_res_239.out 2
          have c_res_3 : W244.cell? ⟨w.heap.size, 3, none⟩ = some (.string { data := #[] }) := cellAt H_res_239.out 3
          exact bodyPost_ret (v := .tuple #[.agg #[.int .u8 0, .int .i64 0, .slice none 0 0, .string { data := #[] }], .int .i64 7]) (by simp [results, Tryz.results123, go_sem, c_res_0, c_res_1, c_res_2, c_res_3]; try rfl) rfl (TakePost.mk (.slice none 0 0) (by rw [HTK.out]; rfl) (by rw [HTK.out]; exact World.ownsRow_nil _ _ _ _) (HE243.out.to_below (Nat.le_refl _) (by simp)))

end Go.Proofs.YtobmnnihmbdfjaaGreat
