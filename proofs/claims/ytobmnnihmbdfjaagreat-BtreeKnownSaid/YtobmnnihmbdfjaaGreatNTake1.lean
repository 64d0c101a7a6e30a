/- Pages of trees: node.Take. -/
import Derived.Test.YtobmnnihmbdfjaaGreatCRows
import Derived.Test.YtobmnnihmbdfjaaGreatKeys
set_option linter.all false
namespace Go.Proofs.YtobmnnihmbdfjaaGreat
open Go.RowKit

set_option maxRecDepth 100000 in
set_option maxHeartbeats 8000000 in
theorem ntake_k1 (p : List UInt8) (hsz : p.length = 512) (hk : kindOf p = 1) (w : World) : Calls Tryz.prog 123 #[vs p] w (TakePost p w) := by
  obtain ⟨i0, hi0, hz0, hz1, hz2⟩ := info_parts info144
  have HK := Lib.hid hk
  clear hk
  go_enter Tryz.func123, Tryz.ntmps123
  go_wp2_with fail
  have HSZ := Lib.hid hsz
  clear hsz
  have HE1 := Lib.hid (Chg.refl [] w)
  have hC2 : Hid (Chg [] w ((w.alloc (.cells #[.int .u8 0, .int .i64 0, .slice none 0 0, .string { data := #[] }] 150)).alloc (restO p true))) := Lib.hid (((Chg.refl [] w).alloc (.cells #[.int .u8 0, .int .i64 0, .slice none 0 0, .string { data := #[] }] 150)).alloc (restO p true))
  have H_res_3 : Hid (((w.alloc (.cells #[.int .u8 0, .int .i64 0, .slice none 0 0, .string { data := #[] }] 150)).alloc (restO p true)).heap[w.heap.size]? = some (.cells #[.int .u8 0, .int .i64 0, .slice none 0 0, .string { data := #[] }] 150)) := Lib.hid (heapOld (heapNew (by simp [World.setCell]) (.cells #[.int .u8 0, .int .i64 0, .slice none 0 0, .string { data := #[] }] 150)) (restO p true))
  have H_rest_4 : Hid (((w.alloc (.cells #[.int .u8 0, .int .i64 0, .slice none 0 0, .string { data := #[] }] 150)).alloc (restO p true)).heap[w.heap.size + 1]? = some (restO p true)) := Lib.hid (heapNew (by simp [World.setCell]) (restO p true))
  have HE5 := Lib.hid (HE1.out.after hC2.out (by simp))
  generalize ((w.alloc (.cells #[.int .u8 0, .int .i64 0, .slice none 0 0, .string { data := #[] }] 150)).alloc (restO p true)) = W6 at *
  rcases h1 : rnum 1 ⟨p, true⟩ with ⟨k, r1⟩
  have Fh1 := rnum_facts h1 (by decide)
  simp only [show ((256 : Int) ^ (1 : Int).toNat) = 256 by decide] at Fh1
  obtain ⟨k0, k9, Fh1⟩ := Fh1
  have H_h1 := Lib.hid h1
  have H_Fh1 := Lib.hid Fh1
  clear h1 Fh1
  go_at_call 181; refine (rnum_any 1 (by decide) (by decide) _ _ _ H_h1.out _ _ (by have := HSZ.out; simp only; omega) H_rest_4.out).mono ?_; rintro e W7 ⟨rfl, hr, hc⟩
  have hC8 := Lib.hid hc
  have H_res_9 := Lib.hid (hC8.out.get H_res_3.out (by simp only [List.mem_cons, List.mem_singleton, List.not_mem_nil, or_false, not_or, not_false_eq_true]; omega))
  have H_rest_10 : Hid (W7.heap[w.heap.size + 1]? = some (restO r1.s r1.ok)) := Lib.hid hr
  have HE11 := Lib.hid (HE5.out.after hC8.out (by intro k hk; simp only [List.mem_cons, List.mem_singleton, List.not_mem_nil, or_false] at hk ⊢; omega))
  clear hc hr
  obtain rfl : k = 1 := by have := HK.out; rw [kindOf, H_h1.out] at this; exact this
  go_wp2_with fail
  have HL12 := Lib.hid (lt_of_block H_res_9.out)
  have HL13 := Lib.hid (lt_of_block H_rest_10.out)
  have hC14 : Hid (Chg [] W7 (W7.alloc (.cells #[.int .u8 1, .int .i64 0, .slice none 0 0, .string { data := #[] }] 150))) := Lib.hid ((Chg.refl [] W7).alloc (.cells #[.int .u8 1, .int .i64 0, .slice none 0 0, .string { data := #[] }] 150))
  have H_res_15 : Hid ((W7.alloc (.cells #[.int .u8 1, .int .i64 0, .slice none 0 0, .string { data := #[] }] 150)).heap[w.heap.size]? = some (.cells #[.int .u8 0, .int .i64 0, .slice none 0 0, .string { data := #[] }] 150)) := Lib.hid (heapOld H_res_9.out (.cells #[.int .u8 1, .int .i64 0, .slice none 0 0, .string { data := #[] }] 150))
  have H_rest_16 : Hid ((W7.alloc (.cells #[.int .u8 1, .int .i64 0, .slice none 0 0, .string { data := #[] }] 150)).heap[w.heap.size + 1]? = some (restO r1.s r1.ok)) := Lib.hid (heapOld H_rest_10.out (.cells #[.int .u8 1, .int .i64 0, .slice none 0 0, .string { data := #[] }] 150))
  have H_node_17 : Hid ((W7.alloc (.cells #[.int .u8 1, .int .i64 0, .slice none 0 0, .string { data := #[] }] 150)).heap[W7.heap.size]? = some (.cells #[.int .u8 1, .int .i64 0, .slice none 0 0, .string { data := #[] }] 150)) := Lib.hid (heapNew (by simp [World.setCell]) (.cells #[.int .u8 1, .int .i64 0, .slice none 0 0, .string { data := #[] }] 150))
  have HE18 := Lib.hid (HE11.out.after hC14.out (by simp))
  generalize (W7.alloc (.cells #[.int .u8 1, .int .i64 0, .slice none 0 0, .string { data := #[] }] 150)) = W19 at *
  rcases h2 : rnum 2 r1 with ⟨m, r2⟩
  have Fh2 := rnum_facts h2 (by decide)
  simp only [show ((256 : Int) ^ (2 : Int).toNat) = 65536 by decide] at Fh2
  obtain ⟨m0, m9, Fh2⟩ := Fh2
  have H_h2 := Lib.hid h2
  have H_Fh2 := Lib.hid Fh2
  clear h2 Fh2
  go_at_call 181; refine (rnum_any 2 (by decide) (by decide) _ _ _ H_h2.out _ _ (by have := H_Fh1.out; have := HSZ.out; first | omega | (simp only at *; omega)) H_rest_16.out).mono ?_; rintro e W20 ⟨rfl, hr, hc⟩
  have hC21 := Lib.hid hc
  have H_res_22 := Lib.hid (hC21.out.get H_res_15.out (by have := HL12.out; have := HL13.out; simp only [List.mem_cons, List.mem_singleton, List.not_mem_nil, or_false, not_or, not_false_eq_true]; omega))
  have H_rest_23 : Hid (W20.heap[w.heap.size + 1]? = some (restO r2.s r2.ok)) := Lib.hid hr
  have H_node_24 := Lib.hid (hC21.out.get H_node_17.out (by have := HL12.out; have := HL13.out; simp only [List.mem_cons, List.mem_singleton, List.not_mem_nil, or_false, not_or, not_false_eq_true]; omega))
  have HE25 := Lib.hid (HE18.out.after hC21.out (by intro k hk; have := HL12.out; have := HL13.out; simp only [List.mem_cons, List.mem_singleton, List.not_mem_nil, or_false] at hk ⊢; omega))
  clear hc hr
  have c_node_0 : W20.cell? ⟨W7.heap.size, 0, none⟩ = some (.int .u8 1) := cellAt H_node_24.out 0
  go_wp2_with fail
  clear c_node_0
  have HL26 := Lib.hid (lt_of_block H_res_22.out)
  have HL27 := Lib.hid (lt_of_block H_rest_23.out)
  have HL28 := Lib.hid (lt_of_block H_node_24.out)
  obtain ⟨R, hR⟩ : ∃ R, R = parseCells 1 m.toNat r2 [] := ⟨_, rfl⟩
  have H_hR := Lib.hid hR
  clear hR
  go_loopw [8] (fun i wr => ∃ (j : Nat) (v : Value) (r : RestM) (acc : List CellM), i = .int .i64 j ∧ (j : Int) ≤ m ∧ Hid (acc.length = j) ∧ Hid (parseCells 1 (m.toNat - j) r acc = R) ∧
      Hid ((r.ok = true → acc.length + r.s.length ≤ 512) ∧ acc.length ≤ 513 ∧ r.s.length ≤ 512) ∧ Hid (∀ c ∈ acc, c.key.length ≤ 1000000 ∧ c.loc.length ≤ 1000000) ∧ Hid (Chg [w.heap.size + 1, W7.heap.size] W20 wr) ∧
      Hid (wr.heap[w.heap.size + 1]? = some (restO r.s r.ok)) ∧ Hid (wr.heap[W7.heap.size]? = some (.cells #[.int .u8 1, .int .i64 0, v, .string { data := #[] }] 150)) ∧ Hid (CRow wr W20.heap.size v acc))
    (fun i _ => (m - intOf i).toNat)
  case atStart => exact ⟨0, _, r2, [], rfl, by omega, Lib.hid rfl, Lib.hid H_hR.out.symm, Lib.hid (by have := H_Fh1.out; have := H_Fh2.out; have := HSZ.out; simp only [List.length_nil] at *; refine ⟨fun hk => ?_, ?_, ?_⟩ <;> grind), Lib.hid (by simp), Lib.hid (Chg.refl _ _), H_rest_23, H_node_24, Lib.hid (World.ownsRow_nil _ _ _ _)⟩
  case round =>
    obtain ⟨j, v, r, acc, rfl, hj, HAL, HPC, HBD, HSM, HCH, HRE, HNO, HRW⟩ := hrel
    obtain ⟨rs, rok⟩ := r
    cases rok with
    | false =>
      have H_res_29 := Lib.hid (HCH.out.get H_res_22.out (by have := HL12.out; have := HL13.out; have := HL26.out; have := HL27.out; have := HL28.out; simp only [List.mem_cons, List.mem_singleton, List.not_mem_nil, or_false, not_or, not_false_eq_true]; omega))
      have HRU : Hid (∀ g ∈ rowB v, g < wr.heap.size) := Lib.hid (rowB_lt HRW.out)
      have HCZ := Lib.hid HCH.out.size
      have HPE : Hid ((acc, (⟨rs, false⟩ : RestM)) = R) := Lib.hid (by rw [← HPC.out, parseCells_no _ _ _ _ rfl])
      by_cases hlt : (j : Int) < m
      ·
        obtain ⟨sa, scap, rfl⟩ := (rowCells HRW.out).slice
        have c_rest_1 : wr.cell? ⟨w.heap.size + 1, 1, none⟩ = some (.bool false) := cellAt HRE.out 1
        have c_node_0 : wr.cell? ⟨W7.heap.size, 0, none⟩ = some (.int .u8 1) := cellAt HNO.out 0
        have c_node_1 : wr.cell? ⟨W7.heap.size, 1, none⟩ = some (.int .i64 0) := cellAt HNO.out 1
        have c_node_2 : wr.cell? ⟨W7.heap.size, 2, none⟩ = some (.slice sa acc.length scap) := cellAt HNO.out 2
        have c_node_3 : wr.cell? ⟨W7.heap.size, 3, none⟩ = some (.string { data := #[] }) := cellAt HNO.out 3
        go_wp2_with fail
        clear c_rest_1 c_node_0 c_node_1 c_node_2 c_node_3
        have HEF := Lib.hid (HE25.out.after HCH.out (by intro k hk; have := HL12.out; have := HL13.out; have := HL26.out; have := HL27.out; have := HL28.out; have := HCZ.out; simp only [List.mem_cons, List.mem_singleton, List.not_mem_nil, or_false] at hk ⊢; omega))
        have hpx : parseN p = (⟨1, 0, acc, []⟩ : NodeM) := by have h1 := H_h1.out; have h2 := H_h2.out; have hh : parseN p = ⟨1, 0, (parseCells 1 m.toNat r2 []).1, []⟩   := (by unfold parseN; simp [h1, h2]); rw [hh, ← H_hR.out, ← HPE.out]
        have hcr : CRow wr W20.heap.size (.slice sa acc.length scap) acc := HRW.out
        have hsm : Small (⟨1, 0, acc, []⟩ : NodeM) := ⟨by have := HBD.out; simp only; omega, by simp, HSM.out⟩
        have H_hpx := Lib.hid hpx
        have H_hcr := Lib.hid hcr
        have H_hsm := Lib.hid hsm
        clear hpx hcr hsm
        go_at_call 124; refine (nput_any (⟨1, 0, acc, []⟩ : NodeM) _ _ (rowCells H_hcr.out) H_hsm.out).mono ?_; rintro e W30 ⟨rfl, hb⟩
        have hC31 := Lib.hid (Chg.of_below hb [])
        have HZ32 := Lib.hid hC31.out.size
        have H_res_33 := Lib.hid (hC31.out.get H_res_29.out (by simp))
        have H_rest_34 := Lib.hid (hC31.out.get HRE.out (by simp))
        have H_node_35 := Lib.hid (hC31.out.get HNO.out (by simp))
        have H_crow_36 := Lib.hid (ownsRow_chg H_hcr.out hC31.out (by simp))
        have HE37 := Lib.hid (HEF.out.after hC31.out (by simp))
        clear hb
        rcases hp : putN (⟨1, 0, acc, []⟩ : NodeM) with ⟨q, z⟩
        have HP := Lib.hid hp
        clear hp
        simp only
        by_cases hz : z = 0
        ·
          subst hz
          by_cases hq : q = p
          ·
            subst hq
            have hpe : (q != q) = false := by simp
            have htk : takeN q = some (⟨1, 0, acc, []⟩ : NodeM) := by
              unfold takeN
              rw [if_neg (by rw [HSZ.out]; simp), H_hpx.out, HP.out, if_pos rfl]
            have HTK := Lib.hid htk
            clear htk
            have c_node_0 : W30.cell? ⟨W7.heap.size, 0, none⟩ = some (.int .u8 1) := cellAt H_node_35.out 0
            have c_node_1 : W30.cell? ⟨W7.heap.size, 1, none⟩ = some (.int .i64 0) := cellAt H_node_35.out 1
            have c_node_2 : W30.cell? ⟨W7.heap.size, 2, none⟩ = some (.slice sa acc.length scap) := cellAt H_node_35.out 2
            have c_node_3 : W30.cell? ⟨W7.heap.size, 3, none⟩ = some (.string { data := #[] }) := cellAt H_node_35.out 3
            have c_res_0 : W30.cell? ⟨w.heap.size, 0, none⟩ = some (.int .u8 0) := cellAt H_res_33.out 0
            have c_res_1 : W30.cell? ⟨w.heap.size, 1, none⟩ = some (.int .i64 0) := cellAt H_res_33.out 1
            have c_res_2 : W30.cell? ⟨w.heap.size, 2, none⟩ = some (.slice none 0 0) := cellAt H_res_33.out 2
            have c_res_3 : W30.cell? ⟨w.heap.size, 3, none⟩ = some (.string { data := #[] }) := cellAt H_res_33.out 3
            have f_res_0 : W30.frozen? ⟨w.heap.size, 0, none⟩ = false := freeAt H_res_33.out 0
            have f_res_1 : W30.frozen? ⟨w.heap.size, 1, none⟩ = false := freeAt H_res_33.out 1
            have f_res_2 : W30.frozen? ⟨w.heap.size, 2, none⟩ = false := freeAt H_res_33.out 2
            have f_res_3 : W30.frozen? ⟨w.heap.size, 3, none⟩ = false := freeAt H_res_33.out 3
            go_wp2_with fail
            clear c_node_0 c_node_1 c_node_2 c_node_3 c_res_0 c_res_1 c_res_2 c_res_3 f_res_0 f_res_1 f_res_2 f_res_3
            have HL38 := Lib.hid (lt_of_block H_res_33.out)
            have HL39 := Lib.hid (lt_of_block H_rest_34.out)
            have HL40 := Lib.hid (lt_of_block H_node_35.out)
            have hC41 : Hid (Chg [w.heap.size] W30 ((((W30.setCell ⟨w.heap.size, 0, none⟩ (.int .u8 1)).setCell ⟨w.heap.size, 1, none⟩ (.int .i64 0)).setCell ⟨w.heap.size, 2, none⟩ (.slice sa acc.length scap)).setCell ⟨w.heap.size, 3, none⟩ (vs []))) := Lib.hid (((((Chg.refl [w.heap.size] W30).setCell (.inl (by simp)) (.int .u8 1)).setCell (.inl (by simp)) (.int .i64 0)).setCell (.inl (by simp)) (.slice sa acc.length scap)).setCell (.inl (by simp)) (vs []))
            have HZ42 := Lib.hid hC41.out.size
            have H_res_43 : Hid (((((W30.setCell ⟨w.heap.size, 0, none⟩ (.int .u8 1)).setCell ⟨w.heap.size, 1, none⟩ (.int .i64 0)).setCell ⟨w.heap.size, 2, none⟩ (.slice sa acc.length scap)).setCell ⟨w.heap.size, 3, none⟩ (vs [])).heap[w.heap.size]? = some (.cells #[.int .u8 1, .int .i64 0, .slice sa acc.length scap, vs []] 150)) := Lib.hid (setAt (setAt (setAt (setAt H_res_33.out 0 (.int .u8 1)) 1 (.int .i64 0)) 2 (.slice sa acc.length scap)) 3 (vs []))
            have H_rest_44 : Hid (((((W30.setCell ⟨w.heap.size, 0, none⟩ (.int .u8 1)).setCell ⟨w.heap.size, 1, none⟩ (.int .i64 0)).setCell ⟨w.heap.size, 2, none⟩ (.slice sa acc.length scap)).setCell ⟨w.heap.size, 3, none⟩ (vs [])).heap[w.heap.size + 1]? = some (restO rs false)) := Lib.hid ((setOff 3 (vs []) (by have := HL12.out; have := HL13.out; have := HL26.out; have := HL27.out; have := HL28.out; have := HCZ.out; have := HZ32.out; have := HL38.out; have := HL39.out; have := HL40.out; omega)).trans ((setOff 2 (.slice sa acc.length scap) (by have := HL12.out; have := HL13.out; have := HL26.out; have := HL27.out; have := HL28.out; have := HCZ.out; have := HZ32.out; have := HL38.out; have := HL39.out; have := HL40.out; omega)).trans ((setOff 1 (.int .i64 0) (by have := HL12.out; have := HL13.out; have := HL26.out; have := HL27.out; have := HL28.out; have := HCZ.out; have := HZ32.out; have := HL38.out; have := HL39.out; have := HL40.out; omega)).trans ((setOff 0 (.int .u8 1) (by have := HL12.out; have := HL13.out; have := HL26.out; have := HL27.out; have := HL28.out; have := HCZ.out; have := HZ32.out; have := HL38.out; have := HL39.out; have := HL40.out; omega)).trans H_rest_34.out))))
            have H_node_45 : Hid (((((W30.setCell ⟨w.heap.size, 0, none⟩ (.int .u8 1)).setCell ⟨w.heap.size, 1, none⟩ (.int .i64 0)).setCell ⟨w.heap.size, 2, none⟩ (.slice sa acc.length scap)).setCell ⟨w.heap.size, 3, none⟩ (vs [])).heap[W7.heap.size]? = some (.cells #[.int .u8 1, .int .i64 0, .slice sa acc.length scap, .string { data := #[] }] 150)) := Lib.hid ((setOff 3 (vs []) (by have := HL12.out; have := HL13.out; have := HL26.out; have := HL27.out; have := HL28.out; have := HCZ.out; have := HZ32.out; have := HL38.out; have := HL39.out; have := HL40.out; omega)).trans ((setOff 2 (.slice sa acc.length scap) (by have := HL12.out; have := HL13.out; have := HL26.out; have := HL27.out; have := HL28.out; have := HCZ.out; have := HZ32.out; have := HL38.out; have := HL39.out; have := HL40.out; omega)).trans ((setOff 1 (.int .i64 0) (by have := HL12.out; have := HL13.out; have := HL26.out; have := HL27.out; have := HL28.out; have := HCZ.out; have := HZ32.out; have := HL38.out; have := HL39.out; have := HL40.out; omega)).trans ((setOff 0 (.int .u8 1) (by have := HL12.out; have := HL13.out; have := HL26.out; have := HL27.out; have := HL28.out; have := HCZ.out; have := HZ32.out; have := HL38.out; have := HL39.out; have := HL40.out; omega)).trans H_node_35.out))))
            have H_crow_46 := Lib.hid (ownsRow_chg H_crow_36.out hC41.out (by intro k hk; have := HL12.out; have := HL13.out; have := HL26.out; have := HL27.out; have := HL28.out; have := HCZ.out; have := HZ32.out; have := HL38.out; have := HL39.out; have := HL40.out; have := HZ42.out; simp only [List.mem_cons, List.mem_singleton, List.not_mem_nil, or_false] at hk; omega))
            have HE47 := Lib.hid (HE37.out.after hC41.out (by intro k hk; have := HL12.out; have := HL13.out; have := HL26.out; have := HL27.out; have := HL28.out; have := HCZ.out; have := HZ32.out; have := HL38.out; have := HL39.out; have := HL40.out; have := HZ42.out; simp only [List.mem_cons, List.mem_singleton, List.not_mem_nil, or_false] at hk ⊢; omega))
            generalize ((((W30.setCell ⟨w.heap.size, 0, none⟩ (.int .u8 1)).setCell ⟨w.heap.size, 1, none⟩ (.int .i64 0)).setCell ⟨w.heap.size, 2, none⟩ (.slice sa acc.length scap)).setCell ⟨w.heap.size, 3, none⟩ (vs [])) = W48 at *
            have c_res_0 : W48.cell? ⟨w.heap.size, 0, none⟩ = some (.int .u8 1) := cellAt H_res_43.out 0
            have c_res_1 : W48.cell? ⟨w.heap.size, 1, none⟩ = some (.int .i64 0) := cellAt H_res_43.out 1
            have c_res_2 : W48.cell? ⟨w.heap.size, 2, none⟩ = some (.slice sa acc.length scap) := cellAt H_res_43.out 2
            have c_res_3 : W48.cell? ⟨w.heap.size, 3, none⟩ = some (vs []) := cellAt H_res_43.out 3
            exact bodyPost_ret (v := .tuple #[.agg #[.int .u8 1, .int .i64 0, .slice sa acc.length scap, vs []], .int .i64 0]) (by simp [results, Tryz.results123, go_sem, c_res_0, c_res_1, c_res_2, c_res_3]; try rfl) rfl (TakePost.mk (.slice sa acc.length scap) (by rw [HTK.out]; rfl) (by rw [HTK.out]; exact ownsRow_low H_crow_46.out (by have := HL12.out; have := HL13.out; have := HL26.out; have := HL27.out; have := HL28.out; have := HCZ.out; have := HE25.out.size; omega)) (HE47.out.to_below (Nat.le_refl _) (by simp)))
          ·
            have hpe : (q != p) = true := by simpa using hq
            have hpe2 : (q == p) = false := by simpa using hq
            have htk : takeN p = none := by
              unfold takeN
              rw [if_neg (by rw [HSZ.out]; simp), H_hpx.out, HP.out, if_neg (by simp [*])]
            have HTK := Lib.hid htk
            clear htk
            have c_res_0 : W30.cell? ⟨w.heap.size, 0, none⟩ = some (.int .u8 0) := cellAt H_res_33.out 0
            have c_res_1 : W30.cell? ⟨w.heap.size, 1, none⟩ = some (.int .i64 0) := cellAt H_res_33.out 1
            have c_res_2 : W30.cell? ⟨w.heap.size, 2, none⟩ = some (.slice none 0 0) := cellAt H_res_33.out 2
            have c_res_3 : W30.cell? ⟨w.heap.size, 3, none⟩ = some (.string { data := #[] }) := cellAt H_res_33.out 3
            have f_res_0 : W30.frozen? ⟨w.heap.size, 0, none⟩ = false := freeAt H_res_33.out 0
            have f_res_1 : W30.frozen? ⟨w.heap.size, 1, none⟩ = false := freeAt H_res_33.out 1
            have f_res_2 : W30.frozen? ⟨w.heap.size, 2, none⟩ = false := freeAt H_res_33.out 2
            have f_res_3 : W30.frozen? ⟨w.heap.size, 3, none⟩ = false := freeAt H_res_33.out 3
            go_wp2_with fail
            clear c_res_0 c_res_1 c_res_2 c_res_3 f_res_0 f_res_1 f_res_2 f_res_3
            have HL49 := Lib.hid (lt_of_block H_res_33.out)
            have HL50 := Lib.hid (lt_of_block H_rest_34.out)
            have HL51 := Lib.hid (lt_of_block H_node_35.out)
            have hC52 : Hid (Chg [w.heap.size] W30 ((((W30.setCell ⟨w.heap.size, 0, none⟩ (.int .u8 0)).setCell ⟨w.heap.size, 1, none⟩ (.int .i64 0)).setCell ⟨w.heap.size, 2, none⟩ (.slice none 0 0)).setCell ⟨w.heap.size, 3, none⟩ (.string { data := #[] }))) := Lib.hid (((((Chg.refl [w.heap.size] W30).setCell (.inl (by simp)) (.int .u8 0)).setCell (.inl (by simp)) (.int .i64 0)).setCell (.inl (by simp)) (.slice none 0 0)).setCell (.inl (by simp)) (.string { data := #[] }))
            have HZ53 := Lib.hid hC52.out.size
            have H_res_54 : Hid (((((W30.setCell ⟨w.heap.size, 0, none⟩ (.int .u8 0)).setCell ⟨w.heap.size, 1, none⟩ (.int .i64 0)).setCell ⟨w.heap.size, 2, none⟩ (.slice none 0 0)).setCell ⟨w.heap.size, 3, none⟩ (.string { data := #[] })).heap[w.heap.size]? = some (.cells #[.int .u8 0, .int .i64 0, .slice none 0 0, .string { data := #[] }] 150)) := Lib.hid (setAt (setAt (setAt (setAt H_res_33.out 0 (.int .u8 0)) 1 (.int .i64 0)) 2 (.slice none 0 0)) 3 (.string { data := #[] }))
            have H_rest_55 : Hid (((((W30.setCell ⟨w.heap.size, 0, none⟩ (.int .u8 0)).setCell ⟨w.heap.size, 1, none⟩ (.int .i64 0)).setCell ⟨w.heap.size, 2, none⟩ (.slice none 0 0)).setCell ⟨w.heap.size, 3, none⟩ (.string { data := #[] })).heap[w.heap.size + 1]? = some (restO rs false)) := Lib.hid ((setOff 3 (.string { data := #[] }) (by have := HL12.out; have := HL13.out; have := HL26.out; have := HL27.out; have := HL28.out; have := HCZ.out; have := HZ32.out; have := HL49.out; have := HL50.out; have := HL51.out; omega)).trans ((setOff 2 (.slice none 0 0) (by have := HL12.out; have := HL13.out; have := HL26.out; have := HL27.out; have := HL28.out; have := HCZ.out; have := HZ32.out; have := HL49.out; have := HL50.out; have := HL51.out; omega)).trans ((setOff 1 (.int .i64 0) (by have := HL12.out; have := HL13.out; have := HL26.out; have := HL27.out; have := HL28.out; have := HCZ.out; have := HZ32.out; have := HL49.out; have := HL50.out; have := HL51.out; omega)).trans ((setOff 0 (.int .u8 0) (by have := HL12.out; have := HL13.out; have := HL26.out; have := HL27.out; have := HL28.out; have := HCZ.out; have := HZ32.out; have := HL49.out; have := HL50.out; have := HL51.out; omega)).trans H_rest_34.out))))
            have H_node_56 : Hid (((((W30.setCell ⟨w.heap.size, 0, none⟩ (.int .u8 0)).setCell ⟨w.heap.size, 1, none⟩ (.int .i64 0)).setCell ⟨w.heap.size, 2, none⟩ (.slice none 0 0)).setCell ⟨w.heap.size, 3, none⟩ (.string { data := #[] })).heap[W7.heap.size]? = some (.cells #[.int .u8 1, .int .i64 0, .slice sa acc.length scap, .string { data := #[] }] 150)) := Lib.hid ((setOff 3 (.string { data := #[] }) (by have := HL12.out; have := HL13.out; have := HL26.out; have := HL27.out; have := HL28.out; have := HCZ.out; have := HZ32.out; have := HL49.out; have := HL50.out; have := HL51.out; omega)).trans ((setOff 2 (.slice none 0 0) (by have := HL12.out; have := HL13.out; have := HL26.out; have := HL27.out; have := HL28.out; have := HCZ.out; have := HZ32.out; have := HL49.out; have := HL50.out; have := HL51.out; omega)).trans ((setOff 1 (.int .i64 0) (by have := HL12.out; have := HL13.out; have := HL26.out; have := HL27.out; have := HL28.out; have := HCZ.out; have := HZ32.out; have := HL49.out; have := HL50.out; have := HL51.out; omega)).trans ((setOff 0 (.int .u8 0) (by have := HL12.out; have := HL13.out; have := HL26.out; have := HL27.out; have := HL28.out; have := HCZ.out; have := HZ32.out; have := HL49.out; have := HL50.out; have := HL51.out; omega)).trans H_node_35.out))))
            have H_crow_57 := Lib.hid (ownsRow_chg H_crow_36.out hC52.out (by intro k hk; have := HL12.out; have := HL13.out; have := HL26.out; have := HL27.out; have := HL28.out; have := HCZ.out; have := HZ32.out; have := HL49.out; have := HL50.out; have := HL51.out; have := HZ53.out; simp only [List.mem_cons, List.mem_singleton, List.not_mem_nil, or_false] at hk; omega))
            have HE58 := Lib.hid (HE37.out.after hC52.out (by intro k hk; have := HL12.out; have := HL13.out; have := HL26.out; have := HL27.out; have := HL28.out; have := HCZ.out; have := HZ32.out; have := HL49.out; have := HL50.out; have := HL51.out; have := HZ53.out; simp only [List.mem_cons, List.mem_singleton, List.not_mem_nil, or_false] at hk ⊢; omega))
            generalize ((((W30.setCell ⟨w.heap.size, 0, none⟩ (.int .u8 0)).setCell ⟨w.heap.size, 1, none⟩ (.int .i64 0)).setCell ⟨w.heap.size, 2, none⟩ (.slice none 0 0)).setCell ⟨w.heap.size, 3, none⟩ (.string { data := #[] })) = W59 at *
            have c_res_0 : W59.cell? ⟨w.heap.size, 0, none⟩ = some (.int .u8 0) := cellAt H_res_54.out 0
            have c_res_1 : W59.cell? ⟨w.heap.size, 1, none⟩ = some (.int .i64 0) := cellAt H_res_54.out 1
            have c_res_2 : W59.cell? ⟨w.heap.size, 2, none⟩ = some (.slice none 0 0) := cellAt H_res_54.out 2
            have c_res_3 : W59.cell? ⟨w.heap.size, 3, none⟩ = some (.string { data := #[] }) := cellAt H_res_54.out 3
            exact bodyPost_ret (v := .tuple #[.agg #[.int .u8 0, .int .i64 0, .slice none 0 0, .string { data := #[] }], .int .i64 7]) (by simp [results, Tryz.results123, go_sem, c_res_0, c_res_1, c_res_2, c_res_3]; try rfl) rfl (TakePost.mk (.slice none 0 0) (by rw [HTK.out]; rfl) (by rw [HTK.out]; exact World.ownsRow_nil _ _ _ _) (HE58.out.to_below (Nat.le_refl _) (by simp)))
        ·
          have hz1 : (z == 0) = false := by simpa using hz
          have hz2 : (z != 0) = true := by simpa using hz
          have htk : takeN p = none := by
            unfold takeN
            rw [if_neg (by rw [HSZ.out]; simp), H_hpx.out, HP.out, if_neg (by simp [*])]
          have HTK := Lib.hid htk
          clear htk
          have c_res_0 : W30.cell? ⟨w.heap.size, 0, none⟩ = some (.int .u8 0) := cellAt H_res_33.out 0
          have c_res_1 : W30.cell? ⟨w.heap.size, 1, none⟩ = some (.int .i64 0) := cellAt H_res_33.out 1
          have c_res_2 : W30.cell? ⟨w.heap.size, 2, none⟩ = some (.slice none 0 0) := cellAt H_res_33.out 2
          have c_res_3 : W30.cell? ⟨w.heap.size, 3, none⟩ = some (.string { data := #[] }) := cellAt H_res_33.out 3
          have f_res_0 : W30.frozen? ⟨w.heap.size, 0, none⟩ = false := freeAt H_res_33.out 0
          have f_res_1 : W30.frozen? ⟨w.heap.size, 1, none⟩ = false := freeAt H_res_33.out 1
          have f_res_2 : W30.frozen? ⟨w.heap.size, 2, none⟩ = false := freeAt H_res_33.out 2
          have f_res_3 : W30.frozen? ⟨w.heap.size, 3, none⟩ = false := freeAt H_res_33.out 3
          go_wp2_with fail
          clear c_res_0 c_res_1 c_res_2 c_res_3 f_res_0 f_res_1 f_res_2 f_res_3
          have HL60 := Lib.hid (lt_of_block H_res_33.out)
          have HL61 := Lib.hid (lt_of_block H_rest_34.out)
          have HL62 := Lib.hid (lt_of_block H_node_35.out)
          have hC63 : Hid (Chg [w.heap.size] W30 ((((W30.setCell ⟨w.heap.size, 0, none⟩ (.int .u8 0)).setCell ⟨w.heap.size, 1, none⟩ (.int .i64 0)).setCell ⟨w.heap.size, 2, none⟩ (.slice none 0 0)).setCell ⟨w.heap.size, 3, none⟩ (.string { data := #[] }))) := Lib.hid (((((Chg.refl [w.heap.size] W30).setCell (.inl (by simp)) (.int .u8 0)).setCell (.inl (by simp)) (.int .i64 0)).setCell (.inl (by simp)) (.slice none 0 0)).setCell (.inl (by simp)) (.string { data := #[] }))
          have HZ64 := Lib.hid hC63.out.size
          have H_res_65 : Hid (((((W30.setCell ⟨w.heap.size, 0, none⟩ (.int .u8 0)).setCell ⟨w.heap.size, 1, none⟩ (.int .i64 0)).setCell ⟨w.heap.size, 2, none⟩ (.slice none 0 0)).setCell ⟨w.heap.size, 3, none⟩ (.string { data := #[] })).heap[w.heap.size]? = some (.cells #[.int .u8 0, .int .i64 0, .slice none 0 0, .string { data := #[] }] 150)) := Lib.hid (setAt (setAt (setAt (setAt H_res_33.out 0 (.int .u8 0)) 1 (.int .i64 0)) 2 (.slice none 0 0)) 3 (.string { data := #[] }))
          have H_rest_66 : Hid (((((W30.setCell ⟨w.heap.size, 0, none⟩ (.int .u8 0)).setCell ⟨w.heap.size, 1, none⟩ (.int .i64 0)).setCell ⟨w.heap.size, 2, none⟩ (.slice none 0 0)).setCell ⟨w.heap.size, 3, none⟩ (.string { data := #[] })).heap[w.heap.size + 1]? = some (restO rs false)) := Lib.hid ((setOff 3 (.string { data := #[] }) (by have := HL12.out; have := HL13.out; have := HL26.out; have := HL27.out; have := HL28.out; have := HCZ.out; have := HZ32.out; have := HL60.out; have := HL61.out; have := HL62.out; omega)).trans ((setOff 2 (.slice none 0 0) (by have := HL12.out; have := HL13.out; have := HL26.out; have := HL27.out; have := HL28.out; have := HCZ.out; have := HZ32.out; have := HL60.out; have := HL61.out; have := HL62.out; omega)).trans ((setOff 1 (.int .i64 0) (by have := HL12.out; have := HL13.out; have := HL26.out; have := HL27.out; have := HL28.out; have := HCZ.out; have := HZ32.out; have := HL60.out; have := HL61.out; have := HL62.out; omega)).trans ((setOff 0 (.int .u8 0) (by have := HL12.out; have := HL13.out; have := HL26.out; have := HL27.out; have := HL28.out; have := HCZ.out; have := HZ32.out; have := HL60.out; have := HL61.out; have := HL62.out; omega)).trans H_rest_34.out))))
          have H_node_67 : Hid (((((W30.setCell ⟨w.heap.size, 0, none⟩ (.int .u8 0)).setCell ⟨w.heap.size, 1, none⟩ (.int .i64 0)).setCell ⟨w.heap.size, 2, none⟩ (.slice none 0 0)).setCell ⟨w.heap.size, 3, none⟩ (.string { data := #[] })).heap[W7.heap.size]? = some (.cells #[.int .u8 1, .int .i64 0, .slice sa acc.length scap, .string { data := #[] }] 150)) := Lib.hid ((setOff 3 (.string { data := #[] }) (by have := HL12.out; have := HL13.out; have := HL26.out; have := HL27.out; have := HL28.out; have := HCZ.out; have := HZ32.out; have := HL60.out; have := HL61.out; have := HL62.out; omega)).trans ((setOff 2 (.slice none 0 0) (by have := HL12.out; have := HL13.out; have := HL26.out; have := HL27.out; have := HL28.out; have := HCZ.out; have := HZ32.out; have := HL60.out; have := HL61.out; have := HL62.out; omega)).trans ((setOff 1 (.int .i64 0) (by have := HL12.out; have := HL13.out; have := HL26.out; have := HL27.out; have := HL28.out; have := HCZ.out; have := HZ32.out; have := HL60.out; have := HL61.out; have := HL62.out; omega)).trans ((setOff 0 (.int .u8 0) (by have := HL12.out; have := HL13.out; have := HL26.out; have := HL27.out; have := HL28.out; have := HCZ.out; have := HZ32.out; have := HL60.out; have := HL61.out; have := HL62.out; omega)).trans H_node_35.out))))
          have H_crow_68 := Lib.hid (ownsRow_chg H_crow_36.out hC63.out (by intro k hk; have := HL12.out; have := HL13.out; have := HL26.out; have := HL27.out; have := HL28.out; have := HCZ.out; have := HZ32.out; have := HL60.out; have := HL61.out; have := HL62.out; have := HZ64.out; simp only [List.mem_cons, List.mem_singleton, List.not_mem_nil, or_false] at hk; omega))
          have HE69 := Lib.hid (HE37.out.after hC63.out (by intro k hk; have := HL12.out; have := HL13.out; have := HL26.out; have := HL27.out; have := HL28.out; have := HCZ.out; have := HZ32.out; have := HL60.out; have := HL61.out; have := HL62.out; have := HZ64.out; simp only [List.mem_cons, List.mem_singleton, List.not_mem_nil, or_false] at hk ⊢; omega))
          generalize ((((W30.setCell ⟨w.heap.size, 0, none⟩ (.int .u8 0)).setCell ⟨w.heap.size, 1, none⟩ (.int .i64 0)).setCell ⟨w.heap.size, 2, none⟩ (.slice none 0 0)).setCell ⟨w.heap.size, 3, none⟩ (.string { data := #[] })) = W70 at *
          have c_res_0 : W70.cell? ⟨w.heap.size, 0, none⟩ = some (.int .u8 0) := cellAt H_res_65.out 0
          have c_res_1 : W70.cell? ⟨w.heap.size, 1, none⟩ = some (.int .i64 0) := cellAt H_res_65.out 1
          have c_res_2 : W70.cell? ⟨w.heap.size, 2, none⟩ = some (.slice none 0 0) := cellAt H_res_65.out 2
          have c_res_3 : W70.cell? ⟨w.heap.size, 3, none⟩ = some (.string { data := #[] }) := cellAt H_res_65.out 3
          exact bodyPost_ret (v := .tuple #[.agg #[.int .u8 0, .int .i64 0, .slice none 0 0, .string { data := #[] }], .int .i64 7]) (by simp [results, Tryz.results123, go_sem, c_res_0, c_res_1, c_res_2, c_res_3]; try rfl) rfl (TakePost.mk (.slice none 0 0) (by rw [HTK.out]; rfl) (by rw [HTK.out]; exact World.ownsRow_nil _ _ _ _) (HE69.out.to_below (Nat.le_refl _) (by simp)))
      ·
        obtain ⟨sa, scap, rfl⟩ := (rowCells HRW.out).slice
        have c_rest_1 : wr.cell? ⟨w.heap.size + 1, 1, none⟩ = some (.bool false) := cellAt HRE.out 1
        have c_node_0 : wr.cell? ⟨W7.heap.size, 0, none⟩ = some (.int .u8 1) := cellAt HNO.out 0
        have c_node_1 : wr.cell? ⟨W7.heap.size, 1, none⟩ = some (.int .i64 0) := cellAt HNO.out 1
        have c_node_2 : wr.cell? ⟨W7.heap.size, 2, none⟩ = some (.slice sa acc.length scap) := cellAt HNO.out 2
        have c_node_3 : wr.cell? ⟨W7.heap.size, 3, none⟩ = some (.string { data := #[] }) := cellAt HNO.out 3
        go_wp2_with fail
        clear c_rest_1 c_node_0 c_node_1 c_node_2 c_node_3
        have HEF := Lib.hid (HE25.out.after HCH.out (by intro k hk; have := HL12.out; have := HL13.out; have := HL26.out; have := HL27.out; have := HL28.out; have := HCZ.out; simp only [List.mem_cons, List.mem_singleton, List.not_mem_nil, or_false] at hk ⊢; omega))
        have hpx : parseN p = (⟨1, 0, acc, []⟩ : NodeM) := by have h1 := H_h1.out; have h2 := H_h2.out; have hh : parseN p = ⟨1, 0, (parseCells 1 m.toNat r2 []).1, []⟩   := (by unfold parseN; simp [h1, h2]); rw [hh, ← H_hR.out, ← HPE.out]
        have hcr : CRow wr W20.heap.size (.slice sa acc.length scap) acc := HRW.out
        have hsm : Small (⟨1, 0, acc, []⟩ : NodeM) := ⟨by have := HBD.out; simp only; omega, by simp, HSM.out⟩
        have H_hpx := Lib.hid hpx
        have H_hcr := Lib.hid hcr
        have H_hsm := Lib.hid hsm
        clear hpx hcr hsm
        go_at_call 124; refine (nput_any (⟨1, 0, acc, []⟩ : NodeM) _ _ (rowCells H_hcr.out) H_hsm.out).mono ?_; rintro e W71 ⟨rfl, hb⟩
        have hC72 := Lib.hid (Chg.of_below hb [])
        have HZ73 := Lib.hid hC72.out.size
        have H_res_74 := Lib.hid (hC72.out.get H_res_29.out (by simp))
        have H_rest_75 := Lib.hid (hC72.out.get HRE.out (by simp))
        have H_node_76 := Lib.hid (hC72.out.get HNO.out (by simp))
        have H_crow_77 := Lib.hid (ownsRow_chg H_hcr.out hC72.out (by simp))
        have HE78 := Lib.hid (HEF.out.after hC72.out (by simp))
        clear hb
        rcases hp : putN (⟨1, 0, acc, []⟩ : NodeM) with ⟨q, z⟩
        have HP := Lib.hid hp
        clear hp
        simp only
        by_cases hz : z = 0
        ·
          subst hz
          by_cases hq : q = p
          ·
            subst hq
            have hpe : (q != q) = false := by simp
            have htk : takeN q = some (⟨1, 0, acc, []⟩ : NodeM) := by
              unfold takeN
              rw [if_neg (by rw [HSZ.out]; simp), H_hpx.out, HP.out, if_pos rfl]
            have HTK := Lib.hid htk
            clear htk
            have c_node_0 : W71.cell? ⟨W7.heap.size, 0, none⟩ = some (.int .u8 1) := cellAt H_node_76.out 0
            have c_node_1 : W71.cell? ⟨W7.heap.size, 1, none⟩ = some (.int .i64 0) := cellAt H_node_76.out 1
            have c_node_2 : W71.cell? ⟨W7.heap.size, 2, none⟩ = some (.slice sa acc.length scap) := cellAt H_node_76.out 2
            have c_node_3 : W71.cell? ⟨W7.heap.size, 3, none⟩ = some (.string { data := #[] }) := cellAt H_node_76.out 3
            have c_res_0 : W71.cell? ⟨w.heap.size, 0, none⟩ = some (.int .u8 0) := cellAt H_res_74.out 0
            have c_res_1 : W71.cell? ⟨w.heap.size, 1, none⟩ = some (.int .i64 0) := cellAt H_res_74.out 1
            have c_res_2 : W71.cell? ⟨w.heap.size, 2, none⟩ = some (.slice none 0 0) := cellAt H_res_74.out 2
            have c_res_3 : W71.cell? ⟨w.heap.size, 3, none⟩ = some (.string { data := #[] }) := cellAt H_res_74.out 3
            have f_res_0 : W71.frozen? ⟨w.heap.size, 0, none⟩ = false := freeAt H_res_74.out 0
            have f_res_1 : W71.frozen? ⟨w.heap.size, 1, none⟩ = false := freeAt H_res_74.out 1
            have f_res_2 : W71.frozen? ⟨w.heap.size, 2, none⟩ = false := freeAt H_res_74.out 2
            have f_res_3 : W71.frozen? ⟨w.heap.size, 3, none⟩ = false := freeAt H_res_74.out 3
            go_wp2_with fail
            clear c_node_0 c_node_1 c_node_2 c_node_3 c_res_0 c_res_1 c_res_2 c_res_3 f_res_0 f_res_1 f_res_2 f_res_3
            have HL79 := Lib.hid (lt_of_block H_res_74.out)
            have HL80 := Lib.hid (lt_of_block H_rest_75.out)
            have HL81 := Lib.hid (lt_of_block H_node_76.out)
            have hC82 : Hid (Chg [w.heap.size] W71 ((((W71.setCell ⟨w.heap.size, 0, none⟩ (.int .u8 1)).setCell ⟨w.heap.size, 1, none⟩ (.int .i64 0)).setCell ⟨w.heap.size, 2, none⟩ (.slice sa acc.length scap)).setCell ⟨w.heap.size, 3, none⟩ (vs []))) := Lib.hid (((((Chg.refl [w.heap.size] W71).setCell (.inl (by simp)) (.int .u8 1)).setCell (.inl (by simp)) (.int .i64 0)).setCell (.inl (by simp)) (.slice sa acc.length scap)).setCell (.inl (by simp)) (vs []))
            have HZ83 := Lib.hid hC82.out.size
            have H_res_84 : Hid (((((W71.setCell ⟨w.heap.size, 0, none⟩ (.int .u8 1)).setCell ⟨w.heap.size, 1, none⟩ (.int .i64 0)).setCell ⟨w.heap.size, 2, none⟩ (.slice sa acc.length scap)).setCell ⟨w.heap.size, 3, none⟩ (vs [])).heap[w.heap.size]? = some (.cells #[.int .u8 1, .int .i64 0, .slice sa acc.length scap, vs []] 150)) := Lib.hid (setAt (setAt (setAt (setAt H_res_74.out 0 (.int .u8 1)) 1 (.int .i64 0)) 2 (.slice sa acc.length scap)) 3 (vs []))
            have H_rest_85 : Hid (((((W71.setCell ⟨w.heap.size, 0, none⟩ (.int .u8 1)).setCell ⟨w.heap.size, 1, none⟩ (.int .i64 0)).setCell ⟨w.heap.size, 2, none⟩ (.slice sa acc.length scap)).setCell ⟨w.heap.size, 3, none⟩ (vs [])).heap[w.heap.size + 1]? = some (restO rs false)) := Lib.hid ((setOff 3 (vs []) (by have := HL12.out; have := HL13.out; have := HL26.out; have := HL27.out; have := HL28.out; have := HCZ.out; have := HZ73.out; have := HL79.out; have := HL80.out; have := HL81.out; omega)).trans ((setOff 2 (.slice sa acc.length scap) (by have := HL12.out; have := HL13.out; have := HL26.out; have := HL27.out; have := HL28.out; have := HCZ.out; have := HZ73.out; have := HL79.out; have := HL80.out; have := HL81.out; omega)).trans ((setOff 1 (.int .i64 0) (by have := HL12.out; have := HL13.out; have := HL26.out; have := HL27.out; have := HL28.out; have := HCZ.out; have := HZ73.out; have := HL79.out; have := HL80.out; have := HL81.out; omega)).trans ((setOff 0 (.int .u8 1) (by have := HL12.out; have := HL13.out; have := HL26.out; have := HL27.out; have := HL28.out; have := HCZ.out; have := HZ73.out; have := HL79.out; have := HL80.out; have := HL81.out; omega)).trans H_rest_75.out))))
            have H_node_86 : Hid (((((W71.setCell ⟨w.heap.size, 0, none⟩ (.int .u8 1)).setCell ⟨w.heap.size, 1, none⟩ (.int .i64 0)).setCell ⟨w.heap.size, 2, none⟩ (.slice sa acc.length scap)).setCell ⟨w.heap.size, 3, none⟩ (vs [])).heap[W7.heap.size]? = some (.cells #[.int .u8 1, .int .i64 0, .slice sa acc.length scap, .string { data := #[] }] 150)) := Lib.hid ((setOff 3 (vs []) (by have := HL12.out; have := HL13.out; have := HL26.out; have := HL27.out; have := HL28.out; have := HCZ.out; have := HZ73.out; have := HL79.out; have := HL80.out; have := HL81.out; omega)).trans ((setOff 2 (.slice sa acc.length scap) (by have := HL12.out; have := HL13.out; have := HL26.out; have := HL27.out; have := HL28.out; have := HCZ.out; have := HZ73.out; have := HL79.out; have := HL80.out; have := HL81.out; omega)).trans ((setOff 1 (.int .i64 0) (by have := HL12.out; have := HL13.out; have := HL26.out; have := HL27.out; have := HL28.out; have := HCZ.out; have := HZ73.out; have := HL79.out; have := HL80.out; have := HL81.out; omega)).trans ((setOff 0 (.int .u8 1) (by have := HL12.out; have := HL13.out; have := HL26.out; have := HL27.out; have := HL28.out; have := HCZ.out; have := HZ73.out; have := HL79.out; have := HL80.out; have := HL81.out; omega)).trans H_node_76.out))))
            have H_crow_87 := Lib.hid (ownsRow_chg H_crow_77.out hC82.out (by intro k hk; have := HL12.out; have := HL13.out; have := HL26.out; have := HL27.out; have := HL28.out; have := HCZ.out; have := HZ73.out; have := HL79.out; have := HL80.out; have := HL81.out; have := HZ83.out; simp only [List.mem_cons, List.mem_singleton, List.not_mem_nil, or_false] at hk; omega))
            have HE88 := Lib.hid (HE78.out.after hC82.out (by intro k hk; have := HL12.out; have := HL13.out; have := HL26.out; have := HL27.out; have := HL28.out; have := HCZ.out; have := HZ73.out; have := HL79.out; have := HL80.out; have := HL81.out; have := HZ83.out; simp only [List.mem_cons, List.mem_singleton, List.not_mem_nil, or_false] at hk ⊢; omega))
            generalize ((((W71.setCell ⟨w.heap.size, 0, none⟩ (.int .u8 1)).setCell ⟨w.heap.size, 1, none⟩ (.int .i64 0)).setCell ⟨w.heap.size, 2, none⟩ (.slice sa acc.length scap)).setCell ⟨w.heap.size, 3, none⟩ (vs [])) = W89 at *
            have c_res_0 : W89.cell? ⟨w.heap.size, 0, none⟩ = some (.int .u8 1) := cellAt H_res_84.out 0
            have c_res_1 : W89.cell? ⟨w.heap.size, 1, none⟩ = some (.int .i64 0) := cellAt H_res_84.out 1
            have c_res_2 : W89.cell? ⟨w.heap.size, 2, none⟩ = some (.slice sa acc.length scap) := cellAt H_res_84.out 2
            have c_res_3 : W89.cell? ⟨w.heap.size, 3, none⟩ = some (vs []) := cellAt H_res_84.out 3
            exact bodyPost_ret (v := .tuple #[.agg #[.int .u8 1, .int .i64 0, .slice sa acc.length scap, vs []], .int .i64 0]) (by simp [results, Tryz.results123, go_sem, c_res_0, c_res_1, c_res_2, c_res_3]; try rfl) rfl (TakePost.mk (.slice sa acc.length scap) (by rw [HTK.out]; rfl) (by rw [HTK.out]; exact ownsRow_low H_crow_87.out (by have := HL12.out; have := HL13.out; have := HL26.out; have := HL27.out; have := HL28.out; have := HCZ.out; have := HE25.out.size; omega)) (HE88.out.to_below (Nat.le_refl _) (by simp)))
          ·
            have hpe : (q != p) = true := by simpa using hq
            have hpe2 : (q == p) = false := by simpa using hq
            have htk : takeN p = none := by
              unfold takeN
              rw [if_neg (by rw [HSZ.out]; simp), H_hpx.out, HP.out, if_neg (by simp [*])]
            have HTK := Lib.hid htk
            clear htk
            have c_res_0 : W71.cell? ⟨w.heap.size, 0, none⟩ = some (.int .u8 0) := cellAt H_res_74.out 0
            have c_res_1 : W71.cell? ⟨w.heap.size, 1, none⟩ = some (.int .i64 0) := cellAt H_res_74.out 1
            have c_res_2 : W71.cell? ⟨w.heap.size, 2, none⟩ = some (.slice none 0 0) := cellAt H_res_74.out 2
            have c_res_3 : W71.cell? ⟨w.heap.size, 3, none⟩ = some (.string { data := #[] }) := cellAt H_res_74.out 3
            have f_res_0 : W71.frozen? ⟨w.heap.size, 0, none⟩ = false := freeAt H_res_74.out 0
            have f_res_1 : W71.frozen? ⟨w.heap.size, 1, none⟩ = false := freeAt H_res_74.out 1
            have f_res_2 : W71.frozen? ⟨w.heap.size, 2, none⟩ = false := freeAt H_res_74.out 2
            have f_res_3 : W71.frozen? ⟨w.heap.size, 3, none⟩ = false := freeAt H_res_74.out 3
            go_wp2_with fail
            clear c_res_0 c_res_1 c_res_2 c_res_3 f_res_0 f_res_1 f_res_2 f_res_3
            have HL90 := Lib.hid (lt_of_block H_res_74.out)
            have HL91 := Lib.hid (lt_of_block H_rest_75.out)
            have HL92 := Lib.hid (lt_of_block H_node_76.out)
            have hC93 : Hid (Chg [w.heap.size] W71 ((((W71.setCell ⟨w.heap.size, 0, none⟩ (.int .u8 0)).setCell ⟨w.heap.size, 1, none⟩ (.int .i64 0)).setCell ⟨w.heap.size, 2, none⟩ (.slice none 0 0)).setCell ⟨w.heap.size, 3, none⟩ (.string { data := #[] }))) := Lib.hid (((((Chg.refl [w.heap.size] W71).setCell (.inl (by simp)) (.int .u8 0)).setCell (.inl (by simp)) (.int .i64 0)).setCell (.inl (by simp)) (.slice none 0 0)).setCell (.inl (by simp)) (.string { data := #[] }))
            have HZ94 := Lib.hid hC93.out.size
            have H_res_95 : Hid (((((W71.setCell ⟨w.heap.size, 0, none⟩ (.int .u8 0)).setCell ⟨w.heap.size, 1, none⟩ (.int .i64 0)).setCell ⟨w.heap.size, 2, none⟩ (.slice none 0 0)).setCell ⟨w.heap.size, 3, none⟩ (.string { data := #[] })).heap[w.heap.size]? = some (.cells #[.int .u8 0, .int .i64 0, .slice none 0 0, .string { data := #[] }] 150)) := Lib.hid (setAt (setAt (setAt (setAt H_res_74.out 0 (.int .u8 0)) 1 (.int .i64 0)) 2 (.slice none 0 0)) 3 (.string { data := #[] }))
            have H_rest_96 : Hid (((((W71.setCell ⟨w.heap.size, 0, none⟩ (.int .u8 0)).setCell ⟨w.heap.size, 1, none⟩ (.int .i64 0)).setCell ⟨w.heap.size, 2, none⟩ (.slice none 0 0)).setCell ⟨w.heap.size, 3, none⟩ (.string { data := #[] })).heap[w.heap.size + 1]? = some (restO rs false)) := Lib.hid ((setOff 3 (.string { data := #[] }) (by have := HL12.out; have := HL13.out; have := HL26.out; have := HL27.out; have := HL28.out; have := HCZ.out; have := HZ73.out; have := HL90.out; have := HL91.out; have := HL92.out; omega)).trans ((setOff 2 (.slice none 0 0) (by have := HL12.out; have := HL13.out; have := HL26.out; have := HL27.out; have := HL28.out; have := HCZ.out; have := HZ73.out; have := HL90.out; have := HL91.out; have := HL92.out; omega)).trans ((setOff 1 (.int .i64 0) (by have := HL12.out; have := HL13.out; have := HL26.out; have := HL27.out; have := HL28.out; have := HCZ.out; have := HZ73.out; have := HL90.out; have := HL91.out; have := HL92.out; omega)).trans ((setOff 0 (.int .u8 0) (by have := HL12.out; have := HL13.out; have := HL26.out; have := HL27.out; have := HL28.out; have := HCZ.out; have := HZ73.out; have := HL90.out; have := HL91.out; have := HL92.out; omega)).trans H_rest_75.out))))
            have H_node_97 : Hid (((((W71.setCell ⟨w.heap.size, 0, none⟩ (.int .u8 0)).setCell ⟨w.heap.size, 1, none⟩ (.int .i64 0)).setCell ⟨w.heap.size, 2, none⟩ (.slice none 0 0)).setCell ⟨w.heap.size, 3, none⟩ (.string { data := #[] })).heap[W7.heap.size]? = some (.cells #[.int .u8 1, .int .i64 0, .slice sa acc.length scap, .string { data := #[] }] 150)) := Lib.hid ((setOff 3 (.string { data := #[] }) (by have := HL12.out; have := HL13.out; have := HL26.out; have := HL27.out; have := HL28.out; have := HCZ.out; have := HZ73.out; have := HL90.out; have := HL91.out; have := HL92.out; omega)).trans ((setOff 2 (.slice none 0 0) (by have := HL12.out; have := HL13.out; have := HL26.out; have := HL27.out; have := HL28.out; have := HCZ.out; have := HZ73.out; have := HL90.out; have := HL91.out; have := HL92.out; omega)).trans ((setOff 1 (.int .i64 0) (by have := HL12.out; have := HL13.out; have := HL26.out; have := HL27.out; have := HL28.out; have := HCZ.out; have := HZ73.out; have := HL90.out; have := HL91.out; have := HL92.out; omega)).trans ((setOff 0 (.int .u8 0) (by have := HL12.out; have := HL13.out; have := HL26.out; have := HL27.out; have := HL28.out; have := HCZ.out; have := HZ73.out; have := HL90.out; have := HL91.out; have := HL92.out; omega)).trans H_node_76.out))))
            have H_crow_98 := Lib.hid (ownsRow_chg H_crow_77.out hC93.out (by intro k hk; have := HL12.out; have := HL13.out; have := HL26.out; have := HL27.out; have := HL28.out; have := HCZ.out; have := HZ73.out; have := HL90.out; have := HL91.out; have := HL92.out; have := HZ94.out; simp only [List.mem_cons, List.mem_singleton, List.not_mem_nil, or_false] at hk; omega))
            have HE99 := Lib.hid (HE78.out.after hC93.out (by intro k hk; have := HL12.out; have := HL13.out; have := HL26.out; have := HL27.out; have := HL28.out; have := HCZ.out; have := HZ73.out; have := HL90.out; have := HL91.out; have := HL92.out; have := HZ94.out; simp only [List.mem_cons, List.mem_singleton, List.not_mem_nil, or_false] at hk ⊢; omega))
            generalize ((((W71.setCell ⟨w.heap.size, 0, none⟩ (.int .u8 0)).setCell ⟨w.heap.size, 1, none⟩ (.int .i64 0)).setCell ⟨w.heap.size, 2, none⟩ (.slice none 0 0)).setCell ⟨w.heap.size, 3, none⟩ (.string { data := #[] })) = W100 at *
            have c_res_0 : W100.cell? ⟨w.heap.size, 0, none⟩ = some (.int .u8 0) := cellAt H_res_95.out 0
            have c_res_1 : W100.cell? ⟨w.heap.size, 1, none⟩ = some (.int .i64 0) := cellAt H_res_95.out 1
            have c_res_2 : W100.cell? ⟨w.heap.size, 2, none⟩ = some (.slice none 0 0) := cellAt H_res_95.out 2
            have c_res_3 : W100.cell? ⟨w.heap.size, 3, none⟩ = some (.string { data := #[] }) := cellAt H_res_95.out 3
            exact bodyPost_ret (v := .tuple #[.agg #[.int .u8 0, .int .i64 0, .slice none 0 0, .string { data := #[] }], .int .i64 7]) (by simp [results, Tryz.results123, go_sem, c_res_0, c_res_1, c_res_2, c_res_3]; try rfl) rfl (TakePost.mk (.slice none 0 0) (by rw [HTK.out]; rfl) (by rw [HTK.out]; exact World.ownsRow_nil _ _ _ _) (HE99.out.to_below (Nat.le_refl _) (by simp)))
        ·
          have hz1 : (z == 0) = false := by simpa using hz
          have hz2 : (z != 0) = true := by simpa using hz
          have htk : takeN p = none := by
            unfold takeN
            rw [if_neg (by rw [HSZ.out]; simp), H_hpx.out, HP.out, if_neg (by simp [*])]
          have HTK := Lib.hid htk
          clear htk
          have c_res_0 : W71.cell? ⟨w.heap.size, 0, none⟩ = some (.int .u8 0) := cellAt H_res_74.out 0
          have c_res_1 : W71.cell? ⟨w.heap.size, 1, none⟩ = some (.int .i64 0) := cellAt H_res_74.out 1
          have c_res_2 : W71.cell? ⟨w.heap.size, 2, none⟩ = some (.slice none 0 0) := cellAt H_res_74.out 2
          have c_res_3 : W71.cell? ⟨w.heap.size, 3, none⟩ = some (.string { data := #[] }) := cellAt H_res_74.out 3
          have f_res_0 : W71.frozen? ⟨w.heap.size, 0, none⟩ = false := freeAt H_res_74.out 0
          have f_res_1 : W71.frozen? ⟨w.heap.size, 1, none⟩ = false := freeAt H_res_74.out 1
          have f_res_2 : W71.frozen? ⟨w.heap.size, 2, none⟩ = false := freeAt H_res_74.out 2
          have f_res_3 : W71.frozen? ⟨w.heap.size, 3, none⟩ = false := freeAt H_res_74.out 3
          go_wp2_with fail
          clear c_res_0 c_res_1 c_res_2 c_res_3 f_res_0 f_res_1 f_res_2 f_res_3
          have HL101 := Lib.hid (lt_of_block H_res_74.out)
          have HL102 := Lib.hid (lt_of_block H_rest_75.out)
          have HL103 := Lib.hid (lt_of_block H_node_76.out)
          have hC104 : Hid (Chg [w.heap.size] W71 ((((W71.setCell ⟨w.heap.size, 0, none⟩ (.int .u8 0)).setCell ⟨w.heap.size, 1, none⟩ (.int .i64 0)).setCell ⟨w.heap.size, 2, none⟩ (.slice none 0 0)).setCell ⟨w.heap.size, 3, none⟩ (.string { data := #[] }))) := Lib.hid (((((Chg.refl [w.heap.size] W71).setCell (.inl (by simp)) (.int .u8 0)).setCell (.inl (by simp)) (.int .i64 0)).setCell (.inl (by simp)) (.slice none 0 0)).setCell (.inl (by simp)) (.string { data := #[] }))
          have HZ105 := Lib.hid hC104.out.size
          have H_res_106 : Hid (((((W71.setCell ⟨w.heap.size, 0, none⟩ (.int .u8 0)).setCell ⟨w.heap.size, 1, none⟩ (.int .i64 0)).setCell ⟨w.heap.size, 2, none⟩ (.slice none 0 0)).setCell ⟨w.heap.size, 3, none⟩ (.string { data := #[] })).heap[w.heap.size]? = some (.cells #[.int .u8 0, .int .i64 0, .slice none 0 0, .string { data := #[] }] 150)) := Lib.hid (setAt (setAt (setAt (setAt H_res_74.out 0 (.int .u8 0)) 1 (.int .i64 0)) 2 (.slice none 0 0)) 3 (.string { data := #[] }))
          have H_rest_107 : Hid (((((W71.setCell ⟨w.heap.size, 0, none⟩ (.int .u8 0)).setCell ⟨w.heap.size, 1, none⟩ (.int .i64 0)).setCell ⟨w.heap.size, 2, none⟩ (.slice none 0 0)).setCell ⟨w.heap.size, 3, none⟩ (.string { data := #[] })).heap[w.heap.size + 1]? = some (restO rs false)) := Lib.hid ((setOff 3 (.string { data := #[] }) (by have := HL12.out; have := HL13.out; have := HL26.out; have := HL27.out; have := HL28.out; have := HCZ.out; have := HZ73.out; have := HL101.out; have := HL102.out; have := HL103.out; omega)).trans ((setOff 2 (.slice none 0 0) (by have := HL12.out; have := HL13.out; have := HL26.out; have := HL27.out; have := HL28.out; have := HCZ.out; have := HZ73.out; have := HL101.out; have := HL102.out; have := HL103.out; omega)).trans ((setOff 1 (.int .i64 0) (by have := HL12.out; have := HL13.out; have := HL26.out; have := HL27.out; have := HL28.out; have := HCZ.out; have := HZ73.out; have := HL101.out; have := HL102.out; have := HL103.out; omega)).trans ((setOff 0 (.int .u8 0) (by have := HL12.out; have := HL13.out; have := HL26.out; have := HL27.out; have := HL28.out; have := HCZ.out; have := HZ73.out; have := HL101.out; have := HL102.out; have := HL103.out; omega)).trans H_rest_75.out))))
          have H_node_108 : Hid (((((W71.setCell ⟨w.heap.size, 0, none⟩ (.int .u8 0)).setCell ⟨w.heap.size, 1, none⟩ (.int .i64 0)).setCell ⟨w.heap.size, 2, none⟩ (.slice none 0 0)).setCell ⟨w.heap.size, 3, none⟩ (.string { data := #[] })).heap[W7.heap.size]? = some (.cells #[.int .u8 1, .int .i64 0, .slice sa acc.length scap, .string { data := #[] }] 150)) := Lib.hid ((setOff 3 (.string { data := #[] }) (by have := HL12.out; have := HL13.out; have := HL26.out; have := HL27.out; have := HL28.out; have := HCZ.out; have := HZ73.out; have := HL101.out; have := HL102.out; have := HL103.out; omega)).trans ((setOff 2 (.slice none 0 0) (by have := HL12.out; have := HL13.out; have := HL26.out; have := HL27.out; have := HL28.out; have := HCZ.out; have := HZ73.out; have := HL101.out; have := HL102.out; have := HL103.out; omega)).trans ((setOff 1 (.int .i64 0) (by have := HL12.out; have := HL13.out; have := HL26.out; have := HL27.out; have := HL28.out; have := HCZ.out; have := HZ73.out; have := HL101.out; have := HL102.out; have := HL103.out; omega)).trans ((setOff 0 (.int .u8 0) (by have := HL12.out; have := HL13.out; have := HL26.out; have := HL27.out; have := HL28.out; have := HCZ.out; have := HZ73.out; have := HL101.out; have := HL102.out; have := HL103.out; omega)).trans H_node_76.out))))
          have H_crow_109 := Lib.hid (ownsRow_chg H_crow_77.out hC104.out (by intro k hk; have := HL12.out; have := HL13.out; have := HL26.out; have := HL27.out; have := HL28.out; have := HCZ.out; have := HZ73.out; have := HL101.out; have := HL102.out; have := HL103.out; have := HZ105.out; simp only [List.mem_cons, List.mem_singleton, List.not_mem_nil, or_false] at hk; omega))
          have HE110 := Lib.hid (HE78.out.after hC104.out (by intro k hk; have := HL12.out; have := HL13.out; have := HL26.out; have := HL27.out; have := HL28.out; have := HCZ.out; have := HZ73.out; have := HL101.out; have := HL102.out; have := HL103.out; have := HZ105.out; simp only [List.mem_cons, List.mem_singleton, List.not_mem_nil, or_false] at hk ⊢; omega))
          generalize ((((W71.setCell ⟨w.heap.size, 0, none⟩ (.int .u8 0)).setCell ⟨w.heap.size, 1, none⟩ (.int .i64 0)).setCell ⟨w.heap.size, 2, none⟩ (.slice none 0 0)).setCell ⟨w.heap.size, 3, none⟩ (.string { data := #[] })) = W111 at *
          have c_res_0 : W111.cell? ⟨w.heap.size, 0, none⟩ = some (.int .u8 0) := cellAt H_res_106.out 0
          have c_res_1 : W111.cell? ⟨w.heap.size, 1, none⟩ = some (.int .i64 0) := cellAt H_res_106.out 1
          have c_res_2 : W111.cell? ⟨w.heap.size, 2, none⟩ = some (.slice none 0 0) := cellAt H_res_106.out 2
          have c_res_3 : W111.cell? ⟨w.heap.size, 3, none⟩ = some (.string { data := #[] }) := cellAt H_res_106.out 3
          exact bodyPost_ret (v := .tuple #[.agg #[.int .u8 0, .int .i64 0, .slice none 0 0, .string { data := #[] }], .int .i64 7]) (by simp [results, Tryz.results123, go_sem, c_res_0, c_res_1, c_res_2, c_res_3]; try rfl) rfl (TakePost.mk (.slice none 0 0) (by rw [HTK.out]; rfl) (by rw [HTK.out]; exact World.ownsRow_nil _ _ _ _) (HE110.out.to_below (Nat.le_refl _) (by simp)))
    | true =>
      have H_res_112 := Lib.hid (HCH.out.get H_res_22.out (by have := HL12.out; have := HL13.out; have := HL26.out; have := HL27.out; have := HL28.out; simp only [List.mem_cons, List.mem_singleton, List.not_mem_nil, or_false, not_or, not_false_eq_true]; omega))
      have HRU : Hid (∀ g ∈ rowB v, g < wr.heap.size) := Lib.hid (rowB_lt HRW.out)
      have HCZ := Lib.hid HCH.out.size
      by_cases hlt : (j : Int) < m
      ·
        have HLT := Lib.hid hlt
        have hfu : m.toNat - j = (m.toNat - j - 1) + 1 := by omega
        have HPC1 := HPC.out
        rw [hfu] at HPC1
        simp only [parseCells, if_true] at HPC1
        have HPC2 := Lib.hid HPC1
        clear HPC1 hfu
        have c_rest_1 : wr.cell? ⟨w.heap.size + 1, 1, none⟩ = some (.bool true) := cellAt HRE.out 1
        have c_node_0 : wr.cell? ⟨W7.heap.size, 0, none⟩ = some (.int .u8 1) := cellAt HNO.out 0
        go_wp2_with fail
        clear c_rest_1 c_node_0
        rcases g1 : rnum 1 ⟨rs, true⟩ with ⟨n1, q1⟩
        have Fg1 := rnum_facts g1 (by decide)
        simp only [show ((256 : Int) ^ (1 : Int).toNat) = 256 by decide] at Fg1
        obtain ⟨n10, n19, Fg1⟩ := Fg1
        have H_g1 := Lib.hid g1
        have H_Fg1 := Lib.hid Fg1
        clear g1 Fg1
        go_at_call 181; refine (rnum_any 1 (by decide) (by decide) _ _ _ H_g1.out _ _ (by have := HBD.out; first | omega | (simp only at *; omega)) HRE.out).mono ?_; rintro e W113 ⟨rfl, hr, hc⟩
        have hC114 := Lib.hid hc
        have HZ115 := Lib.hid hC114.out.size
        have H_res_116 := Lib.hid (hC114.out.get H_res_112.out (by have := HL12.out; have := HL13.out; have := HL26.out; have := HL27.out; have := HL28.out; have := HCZ.out; have := HZ115.out; simp only [List.mem_cons, List.mem_singleton, List.not_mem_nil, or_false, not_or, not_false_eq_true]; omega))
        have H_rest_117 : Hid (W113.heap[w.heap.size + 1]? = some (restO q1.s q1.ok)) := Lib.hid hr
        have H_node_118 := Lib.hid (hC114.out.get HNO.out (by have := HL12.out; have := HL13.out; have := HL26.out; have := HL27.out; have := HL28.out; have := HCZ.out; have := HZ115.out; simp only [List.mem_cons, List.mem_singleton, List.not_mem_nil, or_false, not_or, not_false_eq_true]; omega))
        have H_row_119 := Lib.hid (ownsRow_chg2 HRW.out HRU.out hC114.out (by intro k hk; have := HL12.out; have := HL13.out; have := HL26.out; have := HL27.out; have := HL28.out; have := HCZ.out; have := HZ115.out; simp only [List.mem_cons, List.mem_singleton, List.not_mem_nil, or_false] at hk; omega))
        have HE120 := Lib.hid (HCH.out.after hC114.out (by intro k hk; have := HL12.out; have := HL13.out; have := HL26.out; have := HL27.out; have := HL28.out; have := HCZ.out; have := HZ115.out; simp only [List.mem_cons, List.mem_singleton, List.not_mem_nil, or_false] at hk ⊢; omega))
        clear hc hr
        have c_node_0 : W113.cell? ⟨W7.heap.size, 0, none⟩ = some (.int .u8 1) := cellAt H_node_118.out 0
        go_wp2_with fail
        clear c_node_0
        rcases g2 : rtext n1 q1 with ⟨ky, q2⟩
        have Fg2 := rtext_facts g2 n10
        have H_g2 := Lib.hid g2
        have H_Fg2 := Lib.hid Fg2
        clear g2 Fg2
        go_at_call 182; refine (rtext_any n1 n10 _ _ _ H_g2.out _ _ (by have := HBD.out; have := H_Fg1.out; first | omega | (simp only at *; omega)) H_rest_117.out).mono ?_; rintro e W121 ⟨rfl, hr, hc⟩
        have hC122 := Lib.hid hc
        have HZ123 := Lib.hid hC122.out.size
        have H_res_124 := Lib.hid (hC122.out.get H_res_116.out (by have := HL12.out; have := HL13.out; have := HL26.out; have := HL27.out; have := HL28.out; have := HCZ.out; have := HZ115.out; have := HZ123.out; simp only [List.mem_cons, List.mem_singleton, List.not_mem_nil, or_false, not_or, not_false_eq_true]; omega))
        have H_rest_125 : Hid (W121.heap[w.heap.size + 1]? = some (restO q2.s q2.ok)) := Lib.hid hr
        have H_node_126 := Lib.hid (hC122.out.get H_node_118.out (by have := HL12.out; have := HL13.out; have := HL26.out; have := HL27.out; have := HL28.out; have := HCZ.out; have := HZ115.out; have := HZ123.out; simp only [List.mem_cons, List.mem_singleton, List.not_mem_nil, or_false, not_or, not_false_eq_true]; omega))
        have H_row_127 := Lib.hid (ownsRow_chg2 H_row_119.out HRU.out hC122.out (by intro k hk; have := HL12.out; have := HL13.out; have := HL26.out; have := HL27.out; have := HL28.out; have := HCZ.out; have := HZ115.out; have := HZ123.out; simp only [List.mem_cons, List.mem_singleton, List.not_mem_nil, or_false] at hk; omega))
        have HE128 := Lib.hid (HE120.out.after hC122.out (by intro k hk; have := HL12.out; have := HL13.out; have := HL26.out; have := HL27.out; have := HL28.out; have := HCZ.out; have := HZ115.out; have := HZ123.out; simp only [List.mem_cons, List.mem_singleton, List.not_mem_nil, or_false] at hk ⊢; omega))
        clear hc hr
        have c_node_0 : W121.cell? ⟨W7.heap.size, 0, none⟩ = some (.int .u8 1) := cellAt H_node_126.out 0
        have o_node_0_1 : (W121.alloc (.cells #[vs ky, .int .i64 0, .string { data := #[] }, .int .i64 0] 144)).cell? ⟨W7.heap.size, 0, none⟩ = some (.int .u8 1) := cellAt (heapOld H_node_126.out (.cells #[vs ky, .int .i64 0, .string { data := #[] }, .int .i64 0] 144)) 0
        go_wp2_with fail
        clear c_node_0 o_node_0_1
        have HL129 := Lib.hid (lt_of_block H_res_124.out)
        have HL130 := Lib.hid (lt_of_block H_rest_125.out)
        have HL131 := Lib.hid (lt_of_block H_node_126.out)
        have hC132 : Hid (Chg [] W121 (W121.alloc (.cells #[vs ky, .int .i64 0, .string { data := #[] }, .int .i64 0] 144))) := Lib.hid ((Chg.refl [] W121).alloc (.cells #[vs ky, .int .i64 0, .string { data := #[] }, .int .i64 0] 144))
        have HZ133 := Lib.hid hC132.out.size
        have H_res_134 : Hid ((W121.alloc (.cells #[vs ky, .int .i64 0, .string { data := #[] }, .int .i64 0] 144)).heap[w.heap.size]? = some (.cells #[.int .u8 0, .int .i64 0, .slice none 0 0, .string { data := #[] }] 150)) := Lib.hid (heapOld H_res_124.out (.cells #[vs ky, .int .i64 0, .string { data := #[] }, .int .i64 0] 144))
        have H_rest_135 : Hid ((W121.alloc (.cells #[vs ky, .int .i64 0, .string { data := #[] }, .int .i64 0] 144)).heap[w.heap.size + 1]? = some (restO q2.s q2.ok)) := Lib.hid (heapOld H_rest_125.out (.cells #[vs ky, .int .i64 0, .string { data := #[] }, .int .i64 0] 144))
        have H_node_136 : Hid ((W121.alloc (.cells #[vs ky, .int .i64 0, .string { data := #[] }, .int .i64 0] 144)).heap[W7.heap.size]? = some (.cells #[.int .u8 1, .int .i64 0, v, .string { data := #[] }] 150)) := Lib.hid (heapOld H_node_126.out (.cells #[vs ky, .int .i64 0, .string { data := #[] }, .int .i64 0] 144))
        have H_tc_137 : Hid ((W121.alloc (.cells #[vs ky, .int .i64 0, .string { data := #[] }, .int .i64 0] 144)).heap[W121.heap.size]? = some (.cells #[vs ky, .int .i64 0, .string { data := #[] }, .int .i64 0] 144)) := Lib.hid (heapNew (by simp [World.setCell]) (.cells #[vs ky, .int .i64 0, .string { data := #[] }, .int .i64 0] 144))
        have H_row_138 := Lib.hid (ownsRow_chg2 H_row_127.out HRU.out hC132.out (by simp))
        have HE139 := Lib.hid (HE128.out.after hC132.out (by simp))
        generalize (W121.alloc (.cells #[vs ky, .int .i64 0, .string { data := #[] }, .int .i64 0] 144)) = W140 at *
        rcases g3 : rnum 2 q2 with ⟨sz, q3⟩
        have Fg3 := rnum_facts g3 (by decide)
        simp only [show ((256 : Int) ^ (2 : Int).toNat) = 65536 by decide] at Fg3
        obtain ⟨sz0, sz9, Fg3⟩ := Fg3
        have H_g3 := Lib.hid g3
        have H_Fg3 := Lib.hid Fg3
        clear g3 Fg3
        go_at_call 181; refine (rnum_any 2 (by decide) (by decide) _ _ _ H_g3.out _ _ (by have := HBD.out; have := H_Fg1.out; have := H_Fg2.out; first | omega | (simp only at *; omega)) H_rest_135.out).mono ?_; rintro e W141 ⟨rfl, hr, hc⟩
        have hC142 := Lib.hid hc
        have HZ143 := Lib.hid hC142.out.size
        have H_res_144 := Lib.hid (hC142.out.get H_res_134.out (by have := HL12.out; have := HL13.out; have := HL26.out; have := HL27.out; have := HL28.out; have := HCZ.out; have := HZ115.out; have := HZ123.out; have := HL129.out; have := HL130.out; have := HL131.out; have := HZ133.out; have := HZ143.out; simp only [List.mem_cons, List.mem_singleton, List.not_mem_nil, or_false, not_or, not_false_eq_true]; omega))
        have H_rest_145 : Hid (W141.heap[w.heap.size + 1]? = some (restO q3.s q3.ok)) := Lib.hid hr
        have H_node_146 := Lib.hid (hC142.out.get H_node_136.out (by have := HL12.out; have := HL13.out; have := HL26.out; have := HL27.out; have := HL28.out; have := HCZ.out; have := HZ115.out; have := HZ123.out; have := HL129.out; have := HL130.out; have := HL131.out; have := HZ133.out; have := HZ143.out; simp only [List.mem_cons, List.mem_singleton, List.not_mem_nil, or_false, not_or, not_false_eq_true]; omega))
        have H_tc_147 := Lib.hid (hC142.out.get H_tc_137.out (by have := HL12.out; have := HL13.out; have := HL26.out; have := HL27.out; have := HL28.out; have := HCZ.out; have := HZ115.out; have := HZ123.out; have := HL129.out; have := HL130.out; have := HL131.out; have := HZ133.out; have := HZ143.out; simp only [List.mem_cons, List.mem_singleton, List.not_mem_nil, or_false, not_or, not_false_eq_true]; omega))
        have H_row_148 := Lib.hid (ownsRow_chg2 H_row_138.out HRU.out hC142.out (by intro k hk; have := HL12.out; have := HL13.out; have := HL26.out; have := HL27.out; have := HL28.out; have := HCZ.out; have := HZ115.out; have := HZ123.out; have := HL129.out; have := HL130.out; have := HL131.out; have := HZ133.out; have := HZ143.out; simp only [List.mem_cons, List.mem_singleton, List.not_mem_nil, or_false] at hk; omega))
        have HE149 := Lib.hid (HE139.out.after hC142.out (by intro k hk; have := HL12.out; have := HL13.out; have := HL26.out; have := HL27.out; have := HL28.out; have := HCZ.out; have := HZ115.out; have := HZ123.out; have := HL129.out; have := HL130.out; have := HL131.out; have := HZ133.out; have := HZ143.out; simp only [List.mem_cons, List.mem_singleton, List.not_mem_nil, or_false] at hk ⊢; omega))
        clear hc hr
        have c_tc_1 : W141.cell? ⟨W121.heap.size, 1, none⟩ = some (.int .i64 0) := cellAt H_tc_147.out 1
        have f_tc_1 : W141.frozen? ⟨W121.heap.size, 1, none⟩ = false := freeAt H_tc_147.out 1
        have c_node_0 : W141.cell? ⟨W7.heap.size, 0, none⟩ = some (.int .u8 1) := cellAt H_node_146.out 0
        go_wp2_with fail
        clear c_tc_1 f_tc_1 c_node_0
        have HL150 := Lib.hid (lt_of_block H_res_144.out)
        have HL151 := Lib.hid (lt_of_block H_rest_145.out)
        have HL152 := Lib.hid (lt_of_block H_node_146.out)
        have HL153 := Lib.hid (lt_of_block H_tc_147.out)
        have hC154 : Hid (Chg [W121.heap.size] W141 (W141.setCell ⟨W121.heap.size, 1, none⟩ (.int .i64 sz))) := Lib.hid ((Chg.refl [W121.heap.size] W141).setCell (.inl (by simp)) (.int .i64 sz))
        have HZ155 := Lib.hid hC154.out.size
        have H_res_156 : Hid ((W141.setCell ⟨W121.heap.size, 1, none⟩ (.int .i64 sz)).heap[w.heap.size]? = some (.cells #[.int .u8 0, .int .i64 0, .slice none 0 0, .string { data := #[] }] 150)) := Lib.hid ((setOff 1 (.int .i64 sz) (by have := HL12.out; have := HL13.out; have := HL26.out; have := HL27.out; have := HL28.out; have := HCZ.out; have := HZ115.out; have := HZ123.out; have := HL129.out; have := HL130.out; have := HL131.out; have := HZ133.out; have := HZ143.out; have := HL150.out; have := HL151.out; have := HL152.out; have := HL153.out; omega)).trans H_res_144.out)
        have H_rest_157 : Hid ((W141.setCell ⟨W121.heap.size, 1, none⟩ (.int .i64 sz)).heap[w.heap.size + 1]? = some (restO q3.s q3.ok)) := Lib.hid ((setOff 1 (.int .i64 sz) (by have := HL12.out; have := HL13.out; have := HL26.out; have := HL27.out; have := HL28.out; have := HCZ.out; have := HZ115.out; have := HZ123.out; have := HL129.out; have := HL130.out; have := HL131.out; have := HZ133.out; have := HZ143.out; have := HL150.out; have := HL151.out; have := HL152.out; have := HL153.out; omega)).trans H_rest_145.out)
        have H_node_158 : Hid ((W141.setCell ⟨W121.heap.size, 1, none⟩ (.int .i64 sz)).heap[W7.heap.size]? = some (.cells #[.int .u8 1, .int .i64 0, v, .string { data := #[] }] 150)) := Lib.hid ((setOff 1 (.int .i64 sz) (by have := HL12.out; have := HL13.out; have := HL26.out; have := HL27.out; have := HL28.out; have := HCZ.out; have := HZ115.out; have := HZ123.out; have := HL129.out; have := HL130.out; have := HL131.out; have := HZ133.out; have := HZ143.out; have := HL150.out; have := HL151.out; have := HL152.out; have := HL153.out; omega)).trans H_node_146.out)
        have H_tc_159 : Hid ((W141.setCell ⟨W121.heap.size, 1, none⟩ (.int .i64 sz)).heap[W121.heap.size]? = some (.cells #[vs ky, .int .i64 sz, .string { data := #[] }, .int .i64 0] 144)) := Lib.hid (setAt H_tc_147.out 1 (.int .i64 sz))
        have H_row_160 := Lib.hid (ownsRow_chg2 H_row_148.out HRU.out hC154.out (by intro k hk; have := HL12.out; have := HL13.out; have := HL26.out; have := HL27.out; have := HL28.out; have := HCZ.out; have := HZ115.out; have := HZ123.out; have := HL129.out; have := HL130.out; have := HL131.out; have := HZ133.out; have := HZ143.out; have := HL150.out; have := HL151.out; have := HL152.out; have := HL153.out; have := HZ155.out; simp only [List.mem_cons, List.mem_singleton, List.not_mem_nil, or_false] at hk; omega))
        have HE161 := Lib.hid (HE149.out.after hC154.out (by intro k hk; have := HL12.out; have := HL13.out; have := HL26.out; have := HL27.out; have := HL28.out; have := HCZ.out; have := HZ115.out; have := HZ123.out; have := HL129.out; have := HL130.out; have := HL131.out; have := HZ133.out; have := HZ143.out; have := HL150.out; have := HL151.out; have := HL152.out; have := HL153.out; have := HZ155.out; simp only [List.mem_cons, List.mem_singleton, List.not_mem_nil, or_false] at hk ⊢; omega))
        generalize (W141.setCell ⟨W121.heap.size, 1, none⟩ (.int .i64 sz)) = W162 at *
        rcases g4 : rtext (min sz 100) q3 with ⟨lc, q4⟩
        have Fg4 := rtext_facts g4 (by omega)
        have H_g4 := Lib.hid g4
        have H_Fg4 := Lib.hid Fg4
        clear g4 Fg4
        go_at_call 182; refine (rtext_any (min sz 100) (by omega) _ _ _ H_g4.out _ _ (by have := HBD.out; have := H_Fg1.out; have := H_Fg2.out; have := H_Fg3.out; first | omega | (simp only at *; omega)) H_rest_157.out).mono ?_; rintro e W163 ⟨rfl, hr, hc⟩
        have hC164 := Lib.hid hc
        have HZ165 := Lib.hid hC164.out.size
        have H_res_166 := Lib.hid (hC164.out.get H_res_156.out (by have := HL12.out; have := HL13.out; have := HL26.out; have := HL27.out; have := HL28.out; have := HCZ.out; have := HZ115.out; have := HZ123.out; have := HL129.out; have := HL130.out; have := HL131.out; have := HZ133.out; have := HZ143.out; have := HL150.out; have := HL151.out; have := HL152.out; have := HL153.out; have := HZ155.out; have := HZ165.out; simp only [List.mem_cons, List.mem_singleton, List.not_mem_nil, or_false, not_or, not_false_eq_true]; omega))
        have H_rest_167 : Hid (W163.heap[w.heap.size + 1]? = some (restO q4.s q4.ok)) := Lib.hid hr
        have H_node_168 := Lib.hid (hC164.out.get H_node_158.out (by have := HL12.out; have := HL13.out; have := HL26.out; have := HL27.out; have := HL28.out; have := HCZ.out; have := HZ115.out; have := HZ123.out; have := HL129.out; have := HL130.out; have := HL131.out; have := HZ133.out; have := HZ143.out; have := HL150.out; have := HL151.out; have := HL152.out; have := HL153.out; have := HZ155.out; have := HZ165.out; simp only [List.mem_cons, List.mem_singleton, List.not_mem_nil, or_false, not_or, not_false_eq_true]; omega))
        have H_tc_169 := Lib.hid (hC164.out.get H_tc_159.out (by have := HL12.out; have := HL13.out; have := HL26.out; have := HL27.out; have := HL28.out; have := HCZ.out; have := HZ115.out; have := HZ123.out; have := HL129.out; have := HL130.out; have := HL131.out; have := HZ133.out; have := HZ143.out; have := HL150.out; have := HL151.out; have := HL152.out; have := HL153.out; have := HZ155.out; have := HZ165.out; simp only [List.mem_cons, List.mem_singleton, List.not_mem_nil, or_false, not_or, not_false_eq_true]; omega))
        have H_row_170 := Lib.hid (ownsRow_chg2 H_row_160.out HRU.out hC164.out (by intro k hk; have := HL12.out; have := HL13.out; have := HL26.out; have := HL27.out; have := HL28.out; have := HCZ.out; have := HZ115.out; have := HZ123.out; have := HL129.out; have := HL130.out; have := HL131.out; have := HZ133.out; have := HZ143.out; have := HL150.out; have := HL151.out; have := HL152.out; have := HL153.out; have := HZ155.out; have := HZ165.out; simp only [List.mem_cons, List.mem_singleton, List.not_mem_nil, or_false] at hk; omega))
        have HE171 := Lib.hid (HE161.out.after hC164.out (by intro k hk; have := HL12.out; have := HL13.out; have := HL26.out; have := HL27.out; have := HL28.out; have := HCZ.out; have := HZ115.out; have := HZ123.out; have := HL129.out; have := HL130.out; have := HL131.out; have := HZ133.out; have := HZ143.out; have := HL150.out; have := HL151.out; have := HL152.out; have := HL153.out; have := HZ155.out; have := HZ165.out; simp only [List.mem_cons, List.mem_singleton, List.not_mem_nil, or_false] at hk ⊢; omega))
        clear hc hr
        have c_tc_1 : W163.cell? ⟨W121.heap.size, 1, none⟩ = some (.int .i64 sz) := cellAt H_tc_169.out 1
        have c_tc_2 : W163.cell? ⟨W121.heap.size, 2, none⟩ = some (.string { data := #[] }) := cellAt H_tc_169.out 2
        have f_tc_2 : W163.frozen? ⟨W121.heap.size, 2, none⟩ = false := freeAt H_tc_169.out 2
        have c_node_0 : W163.cell? ⟨W7.heap.size, 0, none⟩ = some (.int .u8 1) := cellAt H_node_168.out 0
        by_cases hg : 100 < sz
        ·
          go_wp2_with fail
          clear c_tc_1 c_tc_2 f_tc_2 c_node_0
          have HL172 := Lib.hid (lt_of_block H_res_166.out)
          have HL173 := Lib.hid (lt_of_block H_rest_167.out)
          have HL174 := Lib.hid (lt_of_block H_node_168.out)
          have HL175 := Lib.hid (lt_of_block H_tc_169.out)
          have hC176 : Hid (Chg [W121.heap.size] W163 (W163.setCell ⟨W121.heap.size, 2, none⟩ (vs lc))) := Lib.hid ((Chg.refl [W121.heap.size] W163).setCell (.inl (by simp)) (vs lc))
          have HZ177 := Lib.hid hC176.out.size
          have H_res_178 : Hid ((W163.setCell ⟨W121.heap.size, 2, none⟩ (vs lc)).heap[w.heap.size]? = some (.cells #[.int .u8 0, .int .i64 0, .slice none 0 0, .string { data := #[] }] 150)) := Lib.hid ((setOff 2 (vs lc) (by have := HL12.out; have := HL13.out; have := HL26.out; have := HL27.out; have := HL28.out; have := HCZ.out; have := HZ115.out; have := HZ123.out; have := HL129.out; have := HL130.out; have := HL131.out; have := HZ133.out; have := HZ143.out; have := HL150.out; have := HL151.out; have := HL152.out; have := HL153.out; have := HZ155.out; have := HZ165.out; have := HL172.out; have := HL173.out; have := HL174.out; have := HL175.out; omega)).trans H_res_166.out)
          have H_rest_179 : Hid ((W163.setCell ⟨W121.heap.size, 2, none⟩ (vs lc)).heap[w.heap.size + 1]? = some (restO q4.s q4.ok)) := Lib.hid ((setOff 2 (vs lc) (by have := HL12.out; have := HL13.out; have := HL26.out; have := HL27.out; have := HL28.out; have := HCZ.out; have := HZ115.out; have := HZ123.out; have := HL129.out; have := HL130.out; have := HL131.out; have := HZ133.out; have := HZ143.out; have := HL150.out; have := HL151.out; have := HL152.out; have := HL153.out; have := HZ155.out; have := HZ165.out; have := HL172.out; have := HL173.out; have := HL174.out; have := HL175.out; omega)).trans H_rest_167.out)
          have H_node_180 : Hid ((W163.setCell ⟨W121.heap.size, 2, none⟩ (vs lc)).heap[W7.heap.size]? = some (.cells #[.int .u8 1, .int .i64 0, v, .string { data := #[] }] 150)) := Lib.hid ((setOff 2 (vs lc) (by have := HL12.out; have := HL13.out; have := HL26.out; have := HL27.out; have := HL28.out; have := HCZ.out; have := HZ115.out; have := HZ123.out; have := HL129.out; have := HL130.out; have := HL131.out; have := HZ133.out; have := HZ143.out; have := HL150.out; have := HL151.out; have := HL152.out; have := HL153.out; have := HZ155.out; have := HZ165.out; have := HL172.out; have := HL173.out; have := HL174.out; have := HL175.out; omega)).trans H_node_168.out)
          have H_tc_181 : Hid ((W163.setCell ⟨W121.heap.size, 2, none⟩ (vs lc)).heap[W121.heap.size]? = some (.cells #[vs ky, .int .i64 sz, vs lc, .int .i64 0] 144)) := Lib.hid (setAt H_tc_169.out 2 (vs lc))
          have H_row_182 := Lib.hid (ownsRow_chg2 H_row_170.out HRU.out hC176.out (by intro k hk; have := HL12.out; have := HL13.out; have := HL26.out; have := HL27.out; have := HL28.out; have := HCZ.out; have := HZ115.out; have := HZ123.out; have := HL129.out; have := HL130.out; have := HL131.out; have := HZ133.out; have := HZ143.out; have := HL150.out; have := HL151.out; have := HL152.out; have := HL153.out; have := HZ155.out; have := HZ165.out; have := HL172.out; have := HL173.out; have := HL174.out; have := HL175.out; have := HZ177.out; simp only [List.mem_cons, List.mem_singleton, List.not_mem_nil, or_false] at hk; omega))
          have HE183 := Lib.hid (HE171.out.after hC176.out (by intro k hk; have := HL12.out; have := HL13.out; have := HL26.out; have := HL27.out; have := HL28.out; have := HCZ.out; have := HZ115.out; have := HZ123.out; have := HL129.out; have := HL130.out; have := HL131.out; have := HZ133.out; have := HZ143.out; have := HL150.out; have := HL151.out; have := HL152.out; have := HL153.out; have := HZ155.out; have := HZ165.out; have := HL172.out; have := HL173.out; have := HL174.out; have := HL175.out; have := HZ177.out; simp only [List.mem_cons, List.mem_singleton, List.not_mem_nil, or_false] at hk ⊢; omega))
          generalize (W163.setCell ⟨W121.heap.size, 2, none⟩ (vs lc)) = W184 at *
          rcases g5 : rnum 4 q4 with ⟨pg, q5⟩
          have Fg5 := rnum_facts g5 (by decide)
          simp only [show ((256 : Int) ^ (4 : Int).toNat) = 4294967296 by decide] at Fg5
          obtain ⟨pg0, pg9, Fg5⟩ := Fg5
          have H_g5 := Lib.hid g5
          have H_Fg5 := Lib.hid Fg5
          clear g5 Fg5
          go_at_call 181; refine (rnum_any 4 (by decide) (by decide) _ _ _ H_g5.out _ _ (by have := HBD.out; have := H_Fg1.out; have := H_Fg2.out; have := H_Fg3.out; have := H_Fg4.out; first | omega | (simp only at *; omega)) H_rest_179.out).mono ?_; rintro e W185 ⟨rfl, hr, hc⟩
          have hC186 := Lib.hid hc
          have HZ187 := Lib.hid hC186.out.size
          have H_res_188 := Lib.hid (hC186.out.get H_res_178.out (by have := HL12.out; have := HL13.out; have := HL26.out; have := HL27.out; have := HL28.out; have := HCZ.out; have := HZ115.out; have := HZ123.out; have := HL129.out; have := HL130.out; have := HL131.out; have := HZ133.out; have := HZ143.out; have := HL150.out; have := HL151.out; have := HL152.out; have := HL153.out; have := HZ155.out; have := HZ165.out; have := HL172.out; have := HL173.out; have := HL174.out; have := HL175.out; have := HZ177.out; have := HZ187.out; simp only [List.mem_cons, List.mem_singleton, List.not_mem_nil, or_false, not_or, not_false_eq_true]; omega))
          have H_rest_189 : Hid (W185.heap[w.heap.size + 1]? = some (restO q5.s q5.ok)) := Lib.hid hr
          have H_node_190 := Lib.hid (hC186.out.get H_node_180.out (by have := HL12.out; have := HL13.out; have := HL26.out; have := HL27.out; have := HL28.out; have := HCZ.out; have := HZ115.out; have := HZ123.out; have := HL129.out; have := HL130.out; have := HL131.out; have := HZ133.out; have := HZ143.out; have := HL150.out; have := HL151.out; have := HL152.out; have := HL153.out; have := HZ155.out; have := HZ165.out; have := HL172.out; have := HL173.out; have := HL174.out; have := HL175.out; have := HZ177.out; have := HZ187.out; simp only [List.mem_cons, List.mem_singleton, List.not_mem_nil, or_false, not_or, not_false_eq_true]; omega))
          have H_tc_191 := Lib.hid (hC186.out.get H_tc_181.out (by have := HL12.out; have := HL13.out; have := HL26.out; have := HL27.out; have := HL28.out; have := HCZ.out; have := HZ115.out; have := HZ123.out; have := HL129.out; have := HL130.out; have := HL131.out; have := HZ133.out; have := HZ143.out; have := HL150.out; have := HL151.out; have := HL152.out; have := HL153.out; have := HZ155.out; have := HZ165.out; have := HL172.out; have := HL173.out; have := HL174.out; have := HL175.out; have := HZ177.out; have := HZ187.out; simp only [List.mem_cons, List.mem_singleton, List.not_mem_nil, or_false, not_or, not_false_eq_true]; omega))
          have H_row_192 := Lib.hid (ownsRow_chg2 H_row_182.out HRU.out hC186.out (by intro k hk; have := HL12.out; have := HL13.out; have := HL26.out; have := HL27.out; have := HL28.out; have := HCZ.out; have := HZ115.out; have := HZ123.out; have := HL129.out; have := HL130.out; have := HL131.out; have := HZ133.out; have := HZ143.out; have := HL150.out; have := HL151.out; have := HL152.out; have := HL153.out; have := HZ155.out; have := HZ165.out; have := HL172.out; have := HL173.out; have := HL174.out; have := HL175.out; have := HZ177.out; have := HZ187.out; simp only [List.mem_cons, List.mem_singleton, List.not_mem_nil, or_false] at hk; omega))
          have HE193 := Lib.hid (HE183.out.after hC186.out (by intro k hk; have := HL12.out; have := HL13.out; have := HL26.out; have := HL27.out; have := HL28.out; have := HCZ.out; have := HZ115.out; have := HZ123.out; have := HL129.out; have := HL130.out; have := HL131.out; have := HZ133.out; have := HZ143.out; have := HL150.out; have := HL151.out; have := HL152.out; have := HL153.out; have := HZ155.out; have := HZ165.out; have := HL172.out; have := HL173.out; have := HL174.out; have := HL175.out; have := HZ177.out; have := HZ187.out; simp only [List.mem_cons, List.mem_singleton, List.not_mem_nil, or_false] at hk ⊢; omega))
          clear hc hr
          have c_tc_0 : W185.cell? ⟨W121.heap.size, 0, none⟩ = some (vs ky) := cellAt H_tc_191.out 0
          have c_tc_1 : W185.cell? ⟨W121.heap.size, 1, none⟩ = some (.int .i64 sz) := cellAt H_tc_191.out 1
          have c_tc_2 : W185.cell? ⟨W121.heap.size, 2, none⟩ = some (vs lc) := cellAt H_tc_191.out 2
          have c_tc_3 : W185.cell? ⟨W121.heap.size, 3, none⟩ = some (.int .i64 0) := cellAt H_tc_191.out 3
          have f_tc_3 : W185.frozen? ⟨W121.heap.size, 3, none⟩ = false := freeAt H_tc_191.out 3
          have c_node_0 : W185.cell? ⟨W7.heap.size, 0, none⟩ = some (.int .u8 1) := cellAt H_node_190.out 0
          have c_node_2 : W185.cell? ⟨W7.heap.size, 2, none⟩ = some (v) := cellAt H_node_190.out 2
          have HL194 := Lib.hid (lt_of_block H_res_188.out)
          have HL195 := Lib.hid (lt_of_block H_rest_189.out)
          have HL196 := Lib.hid (lt_of_block H_node_190.out)
          have HL197 := Lib.hid (lt_of_block H_tc_191.out)
          have p_node_0 : (W185.setCell ⟨W121.heap.size, 3, none⟩ (.int .i64 pg)).cell? ⟨W7.heap.size, 0, none⟩ = some (.int .u8 1) := cellAt ((setOff 3 (.int .i64 pg) (by have := HL12.out; have := HL13.out; have := HL26.out; have := HL27.out; have := HL28.out; have := HCZ.out; have := HZ115.out; have := HZ123.out; have := HL129.out; have := HL130.out; have := HL131.out; have := HZ133.out; have := HZ143.out; have := HL150.out; have := HL151.out; have := HL152.out; have := HL153.out; have := HZ155.out; have := HZ165.out; have := HL172.out; have := HL173.out; have := HL174.out; have := HL175.out; have := HZ177.out; have := HZ187.out; have := HL194.out; have := HL195.out; have := HL196.out; have := HL197.out; omega)).trans H_node_190.out) 0
          have p_node_2 : (W185.setCell ⟨W121.heap.size, 3, none⟩ (.int .i64 pg)).cell? ⟨W7.heap.size, 2, none⟩ = some (v) := cellAt ((setOff 3 (.int .i64 pg) (by have := HL12.out; have := HL13.out; have := HL26.out; have := HL27.out; have := HL28.out; have := HCZ.out; have := HZ115.out; have := HZ123.out; have := HL129.out; have := HL130.out; have := HL131.out; have := HZ133.out; have := HZ143.out; have := HL150.out; have := HL151.out; have := HL152.out; have := HL153.out; have := HZ155.out; have := HZ165.out; have := HL172.out; have := HL173.out; have := HL174.out; have := HL175.out; have := HZ177.out; have := HZ187.out; have := HL194.out; have := HL195.out; have := HL196.out; have := HL197.out; omega)).trans H_node_190.out) 2
          have HL198 := Lib.hid (lt_of_block H_res_188.out)
          have HL199 := Lib.hid (lt_of_block H_rest_189.out)
          have HL200 := Lib.hid (lt_of_block H_node_190.out)
          have HL201 := Lib.hid (lt_of_block H_tc_191.out)
          have hC202 : Hid (Chg [W121.heap.size] W185 ((W185.setCell ⟨W121.heap.size, 3, none⟩ (.int .i64 pg)).alloc (.cells #[vs ky, .int .i64 sz, vs lc, .int .i64 pg] 144))) := Lib.hid (((Chg.refl [W121.heap.size] W185).setCell (.inl (by simp)) (.int .i64 pg)).alloc (.cells #[vs ky, .int .i64 sz, vs lc, .int .i64 pg] 144))
          have HZ203 := Lib.hid hC202.out.size
          have H_res_204 : Hid (((W185.setCell ⟨W121.heap.size, 3, none⟩ (.int .i64 pg)).alloc (.cells #[vs ky, .int .i64 sz, vs lc, .int .i64 pg] 144)).heap[w.heap.size]? = some (.cells #[.int .u8 0, .int .i64 0, .slice none 0 0, .string { data := #[] }] 150)) := Lib.hid (heapOld ((setOff 3 (.int .i64 pg) (by have := HL12.out; have := HL13.out; have := HL26.out; have := HL27.out; have := HL28.out; have := HCZ.out; have := HZ115.out; have := HZ123.out; have := HL129.out; have := HL130.out; have := HL131.out; have := HZ133.out; have := HZ143.out; have := HL150.out; have := HL151.out; have := HL152.out; have := HL153.out; have := HZ155.out; have := HZ165.out; have := HL172.out; have := HL173.out; have := HL174.out; have := HL175.out; have := HZ177.out; have := HZ187.out; have := HL194.out; have := HL195.out; have := HL196.out; have := HL197.out; have := HL198.out; have := HL199.out; have := HL200.out; have := HL201.out; omega)).trans H_res_188.out) (.cells #[vs ky, .int .i64 sz, vs lc, .int .i64 pg] 144))
          have H_rest_205 : Hid (((W185.setCell ⟨W121.heap.size, 3, none⟩ (.int .i64 pg)).alloc (.cells #[vs ky, .int .i64 sz, vs lc, .int .i64 pg] 144)).heap[w.heap.size + 1]? = some (restO q5.s q5.ok)) := Lib.hid (heapOld ((setOff 3 (.int .i64 pg) (by have := HL12.out; have := HL13.out; have := HL26.out; have := HL27.out; have := HL28.out; have := HCZ.out; have := HZ115.out; have := HZ123.out; have := HL129.out; have := HL130.out; have := HL131.out; have := HZ133.out; have := HZ143.out; have := HL150.out; have := HL151.out; have := HL152.out; have := HL153.out; have := HZ155.out; have := HZ165.out; have := HL172.out; have := HL173.out; have := HL174.out; have := HL175.out; have := HZ177.out; have := HZ187.out; have := HL194.out; have := HL195.out; have := HL196.out; have := HL197.out; have := HL198.out; have := HL199.out; have := HL200.out; have := HL201.out; omega)).trans H_rest_189.out) (.cells #[vs ky, .int .i64 sz, vs lc, .int .i64 pg] 144))
          have H_node_206 : Hid (((W185.setCell ⟨W121.heap.size, 3, none⟩ (.int .i64 pg)).alloc (.cells #[vs ky, .int .i64 sz, vs lc, .int .i64 pg] 144)).heap[W7.heap.size]? = some (.cells #[.int .u8 1, .int .i64 0, v, .string { data := #[] }] 150)) := Lib.hid (heapOld ((setOff 3 (.int .i64 pg) (by have := HL12.out; have := HL13.out; have := HL26.out; have := HL27.out; have := HL28.out; have := HCZ.out; have := HZ115.out; have := HZ123.out; have := HL129.out; have := HL130.out; have := HL131.out; have := HZ133.out; have := HZ143.out; have := HL150.out; have := HL151.out; have := HL152.out; have := HL153.out; have := HZ155.out; have := HZ165.out; have := HL172.out; have := HL173.out; have := HL174.out; have := HL175.out; have := HZ177.out; have := HZ187.out; have := HL194.out; have := HL195.out; have := HL196.out; have := HL197.out; have := HL198.out; have := HL199.out; have := HL200.out; have := HL201.out; omega)).trans H_node_190.out) (.cells #[vs ky, .int .i64 sz, vs lc, .int .i64 pg] 144))
          have H_tc_207 : Hid (((W185.setCell ⟨W121.heap.size, 3, none⟩ (.int .i64 pg)).alloc (.cells #[vs ky, .int .i64 sz, vs lc, .int .i64 pg] 144)).heap[W121.heap.size]? = some (.cells #[vs ky, .int .i64 sz, vs lc, .int .i64 pg] 144)) := Lib.hid (heapOld (setAt H_tc_191.out 3 (.int .i64 pg)) (.cells #[vs ky, .int .i64 sz, vs lc, .int .i64 pg] 144))
          have H_tmp_208 : Hid (((W185.setCell ⟨W121.heap.size, 3, none⟩ (.int .i64 pg)).alloc (.cells #[vs ky, .int .i64 sz, vs lc, .int .i64 pg] 144)).heap[W185.heap.size]? = some (.cells #[vs ky, .int .i64 sz, vs lc, .int .i64 pg] 144)) := Lib.hid (heapNew (by simp [World.setCell]) (.cells #[vs ky, .int .i64 sz, vs lc, .int .i64 pg] 144))
          have H_row_209 := Lib.hid (ownsRow_chg2 H_row_192.out HRU.out hC202.out (by intro k hk; have := HL12.out; have := HL13.out; have := HL26.out; have := HL27.out; have := HL28.out; have := HCZ.out; have := HZ115.out; have := HZ123.out; have := HL129.out; have := HL130.out; have := HL131.out; have := HZ133.out; have := HZ143.out; have := HL150.out; have := HL151.out; have := HL152.out; have := HL153.out; have := HZ155.out; have := HZ165.out; have := HL172.out; have := HL173.out; have := HL174.out; have := HL175.out; have := HZ177.out; have := HZ187.out; have := HL194.out; have := HL195.out; have := HL196.out; have := HL197.out; have := HL198.out; have := HL199.out; have := HL200.out; have := HL201.out; have := HZ203.out; simp only [List.mem_cons, List.mem_singleton, List.not_mem_nil, or_false] at hk; omega))
          have HE210 := Lib.hid (HE193.out.after hC202.out (by intro k hk; have := HL12.out; have := HL13.out; have := HL26.out; have := HL27.out; have := HL28.out; have := HCZ.out; have := HZ115.out; have := HZ123.out; have := HL129.out; have := HL130.out; have := HL131.out; have := HZ133.out; have := HZ143.out; have := HL150.out; have := HL151.out; have := HL152.out; have := HL153.out; have := HZ155.out; have := HZ165.out; have := HL172.out; have := HL173.out; have := HL174.out; have := HL175.out; have := HZ177.out; have := HZ187.out; have := HL194.out; have := HL195.out; have := HL196.out; have := HL197.out; have := HL198.out; have := HL199.out; have := HL200.out; have := HL201.out; have := HZ203.out; simp only [List.mem_cons, List.mem_singleton, List.not_mem_nil, or_false] at hk ⊢; omega))
          obtain ⟨cl, hcl⟩ : ∃ cl : CellM, cl = ⟨ky, sz, lc, pg⟩ := ⟨_, rfl⟩
          have HCL : Hid ((parseCell 1 ⟨rs, true⟩) = (cl, q5)) := Lib.hid (by rw [hcl]; have e1 := H_g1.out; have e2 := H_g2.out; have e3 := H_g3.out; have e4 := H_g4.out; have e5 := H_g5.out; simp only [parseCell, e1, e2, if_true, e3, e4]; rw [if_pos (.inr hg)]; simp only [e5])
          have hb1 : (((W185.setCell ⟨W121.heap.size, 3, none⟩ (.int .i64 pg)).alloc (.cells #[vs ky, .int .i64 sz, vs lc, .int .i64 pg] 144))).heap[W185.heap.size]? = some (.cells #[vs cl.key, .int .i64 cl.size, vs cl.loc, .int .i64 cl.page] 144) := by rw [hcl]; exact H_tmp_208.out
          have H_hb1 := Lib.hid hb1
          clear hb1
          have HSMc : Hid (cl.key.length ≤ 1000000 ∧ cl.loc.length ≤ 1000000) := Lib.hid (by rw [hcl]; have := HBD.out; have := H_Fg1.out; have := H_Fg2.out; have := H_Fg3.out; have := H_Fg4.out; have := H_Fg5.out; simp only [List.length_nil] at *; omega)
          clear hcl
          have HL211 := Lib.hid (lt_of_block H_res_204.out)
          have HL212 := Lib.hid (lt_of_block H_rest_205.out)
          have HL213 := Lib.hid (lt_of_block H_node_206.out)
          have HL214 := Lib.hid (lt_of_block H_tc_207.out)
          have HL215 := Lib.hid (lt_of_block H_tmp_208.out)
          go_wp2_with (at_builtin; refine wpList_append_own _ rfl _ _ 148 rfl W20.heap.size 144 i0 _ 4 48 Tryz.underlying148 hi0 hz0 hz1 hz2 rfl (by decide) v _ _ rfl H_row_209.out ⟨W185.heap.size, 0, none⟩ 1 1 (cellCells cl) rfl rfl ?c216a ?c216b ?c216c ?c216d ?c216e ?_)
          clear c_tc_0 c_tc_1 c_tc_2 c_tc_3 f_tc_3 c_node_0 c_node_2 p_node_0 p_node_2
          case c216a => exact cells_one _ _ _ H_hb1.out
          case c216b => intro u hu; simp only [cellCells, List.mem_cons, List.mem_singleton, List.not_mem_nil, or_false] at hu; rcases hu with rfl | rfl | rfl | rfl <;> rfl
          case c216c => have := HBD.out; simp only [maxLen]; omega
          case c216d => have := HBD.out; omega
          case c216e => have := HCH.out.size; have := HE210.out.size; omega
          intro v' W217 hown hgrow hnil
          clear hnil
          have H_rest_218 := Lib.hid (grown_get H_row_209.out hgrow H_rest_205.out (by have := HL12.out; have := HL13.out; have := HL26.out; have := HL27.out; have := HL28.out; have := HCZ.out; have := HZ115.out; have := HZ123.out; have := HL129.out; have := HL130.out; have := HL131.out; have := HZ133.out; have := HZ143.out; have := HL150.out; have := HL151.out; have := HL152.out; have := HL153.out; have := HZ155.out; have := HZ165.out; have := HL172.out; have := HL173.out; have := HL174.out; have := HL175.out; have := HZ177.out; have := HZ187.out; have := HL194.out; have := HL195.out; have := HL196.out; have := HL197.out; have := HL198.out; have := HL199.out; have := HL200.out; have := HL201.out; have := HZ203.out; have := HL211.out; have := HL212.out; have := HL213.out; have := HL214.out; have := HL215.out; omega))
          have H_node_219 := Lib.hid (grown_get H_row_209.out hgrow H_node_206.out (by have := HL12.out; have := HL13.out; have := HL26.out; have := HL27.out; have := HL28.out; have := HCZ.out; have := HZ115.out; have := HZ123.out; have := HL129.out; have := HL130.out; have := HL131.out; have := HZ133.out; have := HZ143.out; have := HL150.out; have := HL151.out; have := HL152.out; have := HL153.out; have := HZ155.out; have := HZ165.out; have := HL172.out; have := HL173.out; have := HL174.out; have := HL175.out; have := HZ177.out; have := HZ187.out; have := HL194.out; have := HL195.out; have := HL196.out; have := HL197.out; have := HL198.out; have := HL199.out; have := HL200.out; have := HL201.out; have := HZ203.out; have := HL211.out; have := HL212.out; have := HL213.out; have := HL214.out; have := HL215.out; omega))
          have H_res_220 := Lib.hid (grown_get H_row_209.out hgrow H_res_204.out (by have := HL12.out; have := HL13.out; have := HL26.out; have := HL27.out; have := HL28.out; have := HCZ.out; have := HZ115.out; have := HZ123.out; have := HL129.out; have := HL130.out; have := HL131.out; have := HZ133.out; have := HZ143.out; have := HL150.out; have := HL151.out; have := HL152.out; have := HL153.out; have := HZ155.out; have := HZ165.out; have := HL172.out; have := HL173.out; have := HL174.out; have := HL175.out; have := HZ177.out; have := HZ187.out; have := HL194.out; have := HL195.out; have := HL196.out; have := HL197.out; have := HL198.out; have := HL199.out; have := HL200.out; have := HL201.out; have := HZ203.out; have := HL211.out; have := HL212.out; have := HL213.out; have := HL214.out; have := HL215.out; omega))
          have HE221 := Lib.hid (grown_eff HE210.out H_row_209.out hgrow (Nat.le_refl _))
          have HOW := Lib.hid (crow_snoc hown)
          clear hown hgrow
          obtain ⟨sb, scb, hv'⟩ := (rowCells HOW.out).slice
          have hv2 : v' = .slice sb (acc.length + 1) scb := by rw [hv']; simp
          subst hv2
          clear hv'
          have c_node_2 : W217.cell? ⟨W7.heap.size, 2, none⟩ = some (v) := cellAt H_node_219.out 2
          have f_node_2 : W217.frozen? ⟨W7.heap.size, 2, none⟩ = false := freeAt H_node_219.out 2
          go_wp2_with fail
          clear c_node_2 f_node_2
          have HL222 := Lib.hid (lt_of_block H_res_220.out)
          have HL223 := Lib.hid (lt_of_block H_rest_218.out)
          have HL224 := Lib.hid (lt_of_block H_node_219.out)
          have hC225 : Hid (Chg [W7.heap.size] W217 (W217.setCell ⟨W7.heap.size, 2, none⟩ (.slice sb (acc.length + 1) scb))) := Lib.hid ((Chg.refl [W7.heap.size] W217).setCell (.inl (by simp)) (.slice sb (acc.length + 1) scb))
          have HZ226 := Lib.hid hC225.out.size
          have H_res_227 : Hid ((W217.setCell ⟨W7.heap.size, 2, none⟩ (.slice sb (acc.length + 1) scb)).heap[w.heap.size]? = some (.cells #[.int .u8 0, .int .i64 0, .slice none 0 0, .string { data := #[] }] 150)) := Lib.hid ((setOff 2 (.slice sb (acc.length + 1) scb) (by have := HL12.out; have := HL13.out; have := HL26.out; have := HL27.out; have := HL28.out; have := HCZ.out; have := HZ115.out; have := HZ123.out; have := HL129.out; have := HL130.out; have := HL131.out; have := HZ133.out; have := HZ143.out; have := HL150.out; have := HL151.out; have := HL152.out; have := HL153.out; have := HZ155.out; have := HZ165.out; have := HL172.out; have := HL173.out; have := HL174.out; have := HL175.out; have := HZ177.out; have := HZ187.out; have := HL194.out; have := HL195.out; have := HL196.out; have := HL197.out; have := HL198.out; have := HL199.out; have := HL200.out; have := HL201.out; have := HZ203.out; have := HL211.out; have := HL212.out; have := HL213.out; have := HL214.out; have := HL215.out; have := HL222.out; have := HL223.out; have := HL224.out; omega)).trans H_res_220.out)
          have H_rest_228 : Hid ((W217.setCell ⟨W7.heap.size, 2, none⟩ (.slice sb (acc.length + 1) scb)).heap[w.heap.size + 1]? = some (restO q5.s q5.ok)) := Lib.hid ((setOff 2 (.slice sb (acc.length + 1) scb) (by have := HL12.out; have := HL13.out; have := HL26.out; have := HL27.out; have := HL28.out; have := HCZ.out; have := HZ115.out; have := HZ123.out; have := HL129.out; have := HL130.out; have := HL131.out; have := HZ133.out; have := HZ143.out; have := HL150.out; have := HL151.out; have := HL152.out; have := HL153.out; have := HZ155.out; have := HZ165.out; have := HL172.out; have := HL173.out; have := HL174.out; have := HL175.out; have := HZ177.out; have := HZ187.out; have := HL194.out; have := HL195.out; have := HL196.out; have := HL197.out; have := HL198.out; have := HL199.out; have := HL200.out; have := HL201.out; have := HZ203.out; have := HL211.out; have := HL212.out; have := HL213.out; have := HL214.out; have := HL215.out; have := HL222.out; have := HL223.out; have := HL224.out; omega)).trans H_rest_218.out)
          have H_node_229 : Hid ((W217.setCell ⟨W7.heap.size, 2, none⟩ (.slice sb (acc.length + 1) scb)).heap[W7.heap.size]? = some (.cells #[.int .u8 1, .int .i64 0, .slice sb (acc.length + 1) scb, .string { data := #[] }] 150)) := Lib.hid (setAt H_node_219.out 2 (.slice sb (acc.length + 1) scb))
          have H_row_230 := Lib.hid (ownsRow_chg HOW.out hC225.out (by intro k hk; have := HL12.out; have := HL13.out; have := HL26.out; have := HL27.out; have := HL28.out; have := HCZ.out; have := HZ115.out; have := HZ123.out; have := HL129.out; have := HL130.out; have := HL131.out; have := HZ133.out; have := HZ143.out; have := HL150.out; have := HL151.out; have := HL152.out; have := HL153.out; have := HZ155.out; have := HZ165.out; have := HL172.out; have := HL173.out; have := HL174.out; have := HL175.out; have := HZ177.out; have := HZ187.out; have := HL194.out; have := HL195.out; have := HL196.out; have := HL197.out; have := HL198.out; have := HL199.out; have := HL200.out; have := HL201.out; have := HZ203.out; have := HL211.out; have := HL212.out; have := HL213.out; have := HL214.out; have := HL215.out; have := HL222.out; have := HL223.out; have := HL224.out; have := HZ226.out; simp only [List.mem_cons, List.mem_singleton, List.not_mem_nil, or_false] at hk; omega))
          have HE231 := Lib.hid (HE221.out.after hC225.out (by intro k hk; have := HL12.out; have := HL13.out; have := HL26.out; have := HL27.out; have := HL28.out; have := HCZ.out; have := HZ115.out; have := HZ123.out; have := HL129.out; have := HL130.out; have := HL131.out; have := HZ133.out; have := HZ143.out; have := HL150.out; have := HL151.out; have := HL152.out; have := HL153.out; have := HZ155.out; have := HZ165.out; have := HL172.out; have := HL173.out; have := HL174.out; have := HL175.out; have := HZ177.out; have := HZ187.out; have := HL194.out; have := HL195.out; have := HL196.out; have := HL197.out; have := HL198.out; have := HL199.out; have := HL200.out; have := HL201.out; have := HZ203.out; have := HL211.out; have := HL212.out; have := HL213.out; have := HL214.out; have := HL215.out; have := HL222.out; have := HL223.out; have := HL224.out; have := HZ226.out; simp only [List.mem_cons, List.mem_singleton, List.not_mem_nil, or_false] at hk ⊢; omega))
          generalize (W217.setCell ⟨W7.heap.size, 2, none⟩ (.slice sb (acc.length + 1) scb)) = W232 at *
          skip
          go_roundw
          case rel => exact ⟨j + 1, _, q5, acc ++ [cl], by go_num, by omega, Lib.hid (by have := HAL.out; simp; omega), Lib.hid (by have h := HPC2.out; rw [HCL.out] at h; rw [show m.toNat - (j + 1) = m.toNat - j - 1 by omega]; exact h), Lib.hid (by have := HBD.out; have := HAL.out; have := H_Fg1.out; have := H_Fg2.out; have := H_Fg3.out; have := H_Fg4.out; have := H_Fg5.out; simp only [List.length_append, List.length_cons, List.length_nil] at *; refine ⟨fun hk => ?_, ?_, ?_⟩ <;> grind), Lib.hid (by intro c hc; rcases List.mem_append.1 hc with h | h; exact HSM.out c h; simp only [List.mem_singleton] at h; rw [h]; exact HSMc.out), HE231, H_rest_228, H_node_229, H_row_230⟩
          case measure => have := HLT.out; simp only [intOf]; omega
        ·
          clear c_tc_1 c_tc_2 f_tc_2 c_node_0
          have c_tc_0 : W163.cell? ⟨W121.heap.size, 0, none⟩ = some (vs ky) := cellAt H_tc_169.out 0
          have c_tc_1 : W163.cell? ⟨W121.heap.size, 1, none⟩ = some (.int .i64 sz) := cellAt H_tc_169.out 1
          have c_tc_3 : W163.cell? ⟨W121.heap.size, 3, none⟩ = some (.int .i64 0) := cellAt H_tc_169.out 3
          have c_tc_2 : W163.cell? ⟨W121.heap.size, 2, none⟩ = some (.string { data := #[] }) := cellAt H_tc_169.out 2
          have f_tc_2 : W163.frozen? ⟨W121.heap.size, 2, none⟩ = false := freeAt H_tc_169.out 2
          have c_node_0 : W163.cell? ⟨W7.heap.size, 0, none⟩ = some (.int .u8 1) := cellAt H_node_168.out 0
          have c_node_2 : W163.cell? ⟨W7.heap.size, 2, none⟩ = some (v) := cellAt H_node_168.out 2
          have HL233 := Lib.hid (lt_of_block H_res_166.out)
          have HL234 := Lib.hid (lt_of_block H_rest_167.out)
          have HL235 := Lib.hid (lt_of_block H_node_168.out)
          have HL236 := Lib.hid (lt_of_block H_tc_169.out)
          have p_node_0 : (W163.setCell ⟨W121.heap.size, 2, none⟩ (vs lc)).cell? ⟨W7.heap.size, 0, none⟩ = some (.int .u8 1) := cellAt ((setOff 2 (vs lc) (by have := HL12.out; have := HL13.out; have := HL26.out; have := HL27.out; have := HL28.out; have := HCZ.out; have := HZ115.out; have := HZ123.out; have := HL129.out; have := HL130.out; have := HL131.out; have := HZ133.out; have := HZ143.out; have := HL150.out; have := HL151.out; have := HL152.out; have := HL153.out; have := HZ155.out; have := HZ165.out; have := HL233.out; have := HL234.out; have := HL235.out; have := HL236.out; omega)).trans H_node_168.out) 0
          have p_node_2 : (W163.setCell ⟨W121.heap.size, 2, none⟩ (vs lc)).cell? ⟨W7.heap.size, 2, none⟩ = some (v) := cellAt ((setOff 2 (vs lc) (by have := HL12.out; have := HL13.out; have := HL26.out; have := HL27.out; have := HL28.out; have := HCZ.out; have := HZ115.out; have := HZ123.out; have := HL129.out; have := HL130.out; have := HL131.out; have := HZ133.out; have := HZ143.out; have := HL150.out; have := HL151.out; have := HL152.out; have := HL153.out; have := HZ155.out; have := HZ165.out; have := HL233.out; have := HL234.out; have := HL235.out; have := HL236.out; omega)).trans H_node_168.out) 2
          have HL237 := Lib.hid (lt_of_block H_res_166.out)
          have HL238 := Lib.hid (lt_of_block H_rest_167.out)
          have HL239 := Lib.hid (lt_of_block H_node_168.out)
          have HL240 := Lib.hid (lt_of_block H_tc_169.out)
          have hC241 : Hid (Chg [W121.heap.size] W163 ((W163.setCell ⟨W121.heap.size, 2, none⟩ (vs lc)).alloc (.cells #[vs ky, .int .i64 sz, vs lc, .int .i64 0] 144))) := Lib.hid (((Chg.refl [W121.heap.size] W163).setCell (.inl (by simp)) (vs lc)).alloc (.cells #[vs ky, .int .i64 sz, vs lc, .int .i64 0] 144))
          have HZ242 := Lib.hid hC241.out.size
          have H_res_243 : Hid (((W163.setCell ⟨W121.heap.size, 2, none⟩ (vs lc)).alloc (.cells #[vs ky, .int .i64 sz, vs lc, .int .i64 0] 144)).heap[w.heap.size]? = some (.cells #[.int .u8 0, .int .i64 0, .slice none 0 0, .string { data := #[] }] 150)) := Lib.hid (heapOld ((setOff 2 (vs lc) (by have := HL12.out; have := HL13.out; have := HL26.out; have := HL27.out; have := HL28.out; have := HCZ.out; have := HZ115.out; have := HZ123.out; have := HL129.out; have := HL130.out; have := HL131.out; have := HZ133.out; have := HZ143.out; have := HL150.out; have := HL151.out; have := HL152.out; have := HL153.out; have := HZ155.out; have := HZ165.out; have := HL233.out; have := HL234.out; have := HL235.out; have := HL236.out; have := HL237.out; have := HL238.out; have := HL239.out; have := HL240.out; omega)).trans H_res_166.out) (.cells #[vs ky, .int .i64 sz, vs lc, .int .i64 0] 144))
          have H_rest_244 : Hid (((W163.setCell ⟨W121.heap.size, 2, none⟩ (vs lc)).alloc (.cells #[vs ky, .int .i64 sz, vs lc, .int .i64 0] 144)).heap[w.heap.size + 1]? = some (restO q4.s q4.ok)) := Lib.hid (heapOld ((setOff 2 (vs lc) (by have := HL12.out; have := HL13.out; have := HL26.out; have := HL27.out; have := HL28.out; have := HCZ.out; have := HZ115.out; have := HZ123.out; have := HL129.out; have := HL130.out; have := HL131.out; have := HZ133.out; have := HZ143.out; have := HL150.out; have := HL151.out; have := HL152.out; have := HL153.out; have := HZ155.out; have := HZ165.out; have := HL233.out; have := HL234.out; have := HL235.out; have := HL236.out; have := HL237.out; have := HL238.out; have := HL239.out; have := HL240.out; omega)).trans H_rest_167.out) (.cells #[vs ky, .int .i64 sz, vs lc, .int .i64 0] 144))
          have H_node_245 : Hid (((W163.setCell ⟨W121.heap.size, 2, none⟩ (vs lc)).alloc (.cells #[vs ky, .int .i64 sz, vs lc, .int .i64 0] 144)).heap[W7.heap.size]? = some (.cells #[.int .u8 1, .int .i64 0, v, .string { data := #[] }] 150)) := Lib.hid (heapOld ((setOff 2 (vs lc) (by have := HL12.out; have := HL13.out; have := HL26.out; have := HL27.out; have := HL28.out; have := HCZ.out; have := HZ115.out; have := HZ123.out; have := HL129.out; have := HL130.out; have := HL131.out; have := HZ133.out; have := HZ143.out; have := HL150.out; have := HL151.out; have := HL152.out; have := HL153.out; have := HZ155.out; have := HZ165.out; have := HL233.out; have := HL234.out; have := HL235.out; have := HL236.out; have := HL237.out; have := HL238.out; have := HL239.out; have := HL240.out; omega)).trans H_node_168.out) (.cells #[vs ky, .int .i64 sz, vs lc, .int .i64 0] 144))
          have H_tc_246 : Hid (((W163.setCell ⟨W121.heap.size, 2, none⟩ (vs lc)).alloc (.cells #[vs ky, .int .i64 sz, vs lc, .int .i64 0] 144)).heap[W121.heap.size]? = some (.cells #[vs ky, .int .i64 sz, vs lc, .int .i64 0] 144)) := Lib.hid (heapOld (setAt H_tc_169.out 2 (vs lc)) (.cells #[vs ky, .int .i64 sz, vs lc, .int .i64 0] 144))
          have H_tmp_247 : Hid (((W163.setCell ⟨W121.heap.size, 2, none⟩ (vs lc)).alloc (.cells #[vs ky, .int .i64 sz, vs lc, .int .i64 0] 144)).heap[W163.heap.size]? = some (.cells #[vs ky, .int .i64 sz, vs lc, .int .i64 0] 144)) := Lib.hid (heapNew (by simp [World.setCell]) (.cells #[vs ky, .int .i64 sz, vs lc, .int .i64 0] 144))
          have H_row_248 := Lib.hid (ownsRow_chg2 H_row_170.out HRU.out hC241.out (by intro k hk; have := HL12.out; have := HL13.out; have := HL26.out; have := HL27.out; have := HL28.out; have := HCZ.out; have := HZ115.out; have := HZ123.out; have := HL129.out; have := HL130.out; have := HL131.out; have := HZ133.out; have := HZ143.out; have := HL150.out; have := HL151.out; have := HL152.out; have := HL153.out; have := HZ155.out; have := HZ165.out; have := HL233.out; have := HL234.out; have := HL235.out; have := HL236.out; have := HL237.out; have := HL238.out; have := HL239.out; have := HL240.out; have := HZ242.out; simp only [List.mem_cons, List.mem_singleton, List.not_mem_nil, or_false] at hk; omega))
          have HE249 := Lib.hid (HE171.out.after hC241.out (by intro k hk; have := HL12.out; have := HL13.out; have := HL26.out; have := HL27.out; have := HL28.out; have := HCZ.out; have := HZ115.out; have := HZ123.out; have := HL129.out; have := HL130.out; have := HL131.out; have := HZ133.out; have := HZ143.out; have := HL150.out; have := HL151.out; have := HL152.out; have := HL153.out; have := HZ155.out; have := HZ165.out; have := HL233.out; have := HL234.out; have := HL235.out; have := HL236.out; have := HL237.out; have := HL238.out; have := HL239.out; have := HL240.out; have := HZ242.out; simp only [List.mem_cons, List.mem_singleton, List.not_mem_nil, or_false] at hk ⊢; omega))
          obtain ⟨cl, hcl⟩ : ∃ cl : CellM, cl = ⟨ky, sz, lc, 0⟩ := ⟨_, rfl⟩
          have HCL : Hid ((parseCell 1 ⟨rs, true⟩) = (cl, q4)) := Lib.hid (by rw [hcl]; have e1 := H_g1.out; have e2 := H_g2.out; have e3 := H_g3.out; have e4 := H_g4.out; simp only [parseCell, e1, e2, if_true, e3, e4]; rw [if_neg (by simpa using hg)])
          have hb1 : (((W163.setCell ⟨W121.heap.size, 2, none⟩ (vs lc)).alloc (.cells #[vs ky, .int .i64 sz, vs lc, .int .i64 0] 144))).heap[W163.heap.size]? = some (.cells #[vs cl.key, .int .i64 cl.size, vs cl.loc, .int .i64 cl.page] 144) := by rw [hcl]; exact H_tmp_247.out
          have H_hb1 := Lib.hid hb1
          clear hb1
          have HSMc : Hid (cl.key.length ≤ 1000000 ∧ cl.loc.length ≤ 1000000) := Lib.hid (by rw [hcl]; have := HBD.out; have := H_Fg1.out; have := H_Fg2.out; have := H_Fg3.out; have := H_Fg4.out; simp only [List.length_nil] at *; omega)
          clear hcl
          have HL250 := Lib.hid (lt_of_block H_res_243.out)
          have HL251 := Lib.hid (lt_of_block H_rest_244.out)
          have HL252 := Lib.hid (lt_of_block H_node_245.out)
          have HL253 := Lib.hid (lt_of_block H_tc_246.out)
          have HL254 := Lib.hid (lt_of_block H_tmp_247.out)
          go_wp2_with (at_builtin; refine wpList_append_own _ rfl _ _ 148 rfl W20.heap.size 144 i0 _ 4 48 Tryz.underlying148 hi0 hz0 hz1 hz2 rfl (by decide) v _ _ rfl H_row_248.out ⟨W163.heap.size, 0, none⟩ 1 1 (cellCells cl) rfl rfl ?c255a ?c255b ?c255c ?c255d ?c255e ?_)
          clear c_tc_0 c_tc_1 c_tc_3 c_tc_2 f_tc_2 c_node_0 c_node_2 p_node_0 p_node_2
          case c255a => exact cells_one _ _ _ H_hb1.out
          case c255b => intro u hu; simp only [cellCells, List.mem_cons, List.mem_singleton, List.not_mem_nil, or_false] at hu; rcases hu with rfl | rfl | rfl | rfl <;> rfl
          case c255c => have := HBD.out; simp only [maxLen]; omega
          case c255d => have := HBD.out; omega
          case c255e => have := HCH.out.size; have := HE249.out.size; omega
          intro v' W256 hown hgrow hnil
          clear hnil
          have H_rest_257 := Lib.hid (grown_get H_row_248.out hgrow H_rest_244.out (by have := HL12.out; have := HL13.out; have := HL26.out; have := HL27.out; have := HL28.out; have := HCZ.out; have := HZ115.out; have := HZ123.out; have := HL129.out; have := HL130.out; have := HL131.out; have := HZ133.out; have := HZ143.out; have := HL150.out; have := HL151.out; have := HL152.out; have := HL153.out; have := HZ155.out; have := HZ165.out; have := HL233.out; have := HL234.out; have := HL235.out; have := HL236.out; have := HL237.out; have := HL238.out; have := HL239.out; have := HL240.out; have := HZ242.out; have := HL250.out; have := HL251.out; have := HL252.out; have := HL253.out; have := HL254.out; omega))
          have H_node_258 := Lib.hid (grown_get H_row_248.out hgrow H_node_245.out (by have := HL12.out; have := HL13.out; have := HL26.out; have := HL27.out; have := HL28.out; have := HCZ.out; have := HZ115.out; have := HZ123.out; have := HL129.out; have := HL130.out; have := HL131.out; have := HZ133.out; have := HZ143.out; have := HL150.out; have := HL151.out; have := HL152.out; have := HL153.out; have := HZ155.out; have := HZ165.out; have := HL233.out; have := HL234.out; have := HL235.out; have := HL236.out; have := HL237.out; have := HL238.out; have := HL239.out; have := HL240.out; have := HZ242.out; have := HL250.out; have := HL251.out; have := HL252.out; have := HL253.out; have := HL254.out; omega))
          have H_res_259 := Lib.hid (grown_get H_row_248.out hgrow H_res_243.out (by have := HL12.out; have := HL13.out; have := HL26.out; have := HL27.out; have := HL28.out; have := HCZ.out; have := HZ115.out; have := HZ123.out; have := HL129.out; have := HL130.out; have := HL131.out; have := HZ133.out; have := HZ143.out; have := HL150.out; have := HL151.out; have := HL152.out; have := HL153.out; have := HZ155.out; have := HZ165.out; have := HL233.out; have := HL234.out; have := HL235.out; have := HL236.out; have := HL237.out; have := HL238.out; have := HL239.out; have := HL240.out; have := HZ242.out; have := HL250.out; have := HL251.out; have := HL252.out; have := HL253.out; have := HL254.out; omega))
          have HE260 := Lib.hid (grown_eff HE249.out H_row_248.out hgrow (Nat.le_refl _))
          have HOW := Lib.hid (crow_snoc hown)
          clear hown hgrow
          obtain ⟨sb, scb, hv'⟩ := (rowCells HOW.out).slice
          have hv2 : v' = .slice sb (acc.length + 1) scb := by rw [hv']; simp
          subst hv2
          clear hv'
          have c_node_2 : W256.cell? ⟨W7.heap.size, 2, none⟩ = some (v) := cellAt H_node_258.out 2
          have f_node_2 : W256.frozen? ⟨W7.heap.size, 2, none⟩ = false := freeAt H_node_258.out 2
          go_wp2_with fail
          clear c_node_2 f_node_2
          have HL261 := Lib.hid (lt_of_block H_res_259.out)
          have HL262 := Lib.hid (lt_of_block H_rest_257.out)
          have HL263 := Lib.hid (lt_of_block H_node_258.out)
          have hC264 : Hid (Chg [W7.heap.size] W256 (W256.setCell ⟨W7.heap.size, 2, none⟩ (.slice sb (acc.length + 1) scb))) := Lib.hid ((Chg.refl [W7.heap.size] W256).setCell (.inl (by simp)) (.slice sb (acc.length + 1) scb))
          have HZ265 := Lib.hid hC264.out.size
          have H_res_266 : Hid ((W256.setCell ⟨W7.heap.size, 2, none⟩ (.slice sb (acc.length + 1) scb)).heap[w.heap.size]? = some (.cells #[.int .u8 0, .int .i64 0, .slice none 0 0, .string { data := #[] }] 150)) := Lib.hid ((setOff 2 (.slice sb (acc.length + 1) scb) (by have := HL12.out; have := HL13.out; have := HL26.out; have := HL27.out; have := HL28.out; have := HCZ.out; have := HZ115.out; have := HZ123.out; have := HL129.out; have := HL130.out; have := HL131.out; have := HZ133.out; have := HZ143.out; have := HL150.out; have := HL151.out; have := HL152.out; have := HL153.out; have := HZ155.out; have := HZ165.out; have := HL233.out; have := HL234.out; have := HL235.out; have := HL236.out; have := HL237.out; have := HL238.out; have := HL239.out; have := HL240.out; have := HZ242.out; have := HL250.out; have := HL251.out; have := HL252.out; have := HL253.out; have := HL254.out; have := HL261.out; have := HL262.out; have := HL263.out; omega)).trans H_res_259.out)
          have H_rest_267 : Hid ((W256.setCell ⟨W7.heap.size, 2, none⟩ (.slice sb (acc.length + 1) scb)).heap[w.heap.size + 1]? = some (restO q4.s q4.ok)) := Lib.hid ((setOff 2 (.slice sb (acc.length + 1) scb) (by have := HL12.out; have := HL13.out; have := HL26.out; have := HL27.out; have := HL28.out; have := HCZ.out; have := HZ115.out; have := HZ123.out; have := HL129.out; have := HL130.out; have := HL131.out; have := HZ133.out; have := HZ143.out; have := HL150.out; have := HL151.out; have := HL152.out; have := HL153.out; have := HZ155.out; have := HZ165.out; have := HL233.out; have := HL234.out; have := HL235.out; have := HL236.out; have := HL237.out; have := HL238.out; have := HL239.out; have := HL240.out; have := HZ242.out; have := HL250.out; have := HL251.out; have := HL252.out; have := HL253.out; have := HL254.out; have := HL261.out; have := HL262.out; have := HL263.out; omega)).trans H_rest_257.out)
          have H_node_268 : Hid ((W256.setCell ⟨W7.heap.size, 2, none⟩ (.slice sb (acc.length + 1) scb)).heap[W7.heap.size]? = some (.cells #[.int .u8 1, .int .i64 0, .slice sb (acc.length + 1) scb, .string { data := #[] }] 150)) := Lib.hid (setAt H_node_258.out 2 (.slice sb (acc.length + 1) scb))
          have H_row_269 := Lib.hid (ownsRow_chg HOW.out hC264.out (by intro k hk; have := HL12.out; have := HL13.out; have := HL26.out; have := HL27.out; have := HL28.out; have := HCZ.out; have := HZ115.out; have := HZ123.out; have := HL129.out; have := HL130.out; have := HL131.out; have := HZ133.out; have := HZ143.out; have := HL150.out; have := HL151.out; have := HL152.out; have := HL153.out; have := HZ155.out; have := HZ165.out; have := HL233.out; have := HL234.out; have := HL235.out; have := HL236.out; have := HL237.out; have := HL238.out; have := HL239.out; have := HL240.out; have := HZ242.out; have := HL250.out; have := HL251.out; have := HL252.out; have := HL253.out; have := HL254.out; have := HL261.out; have := HL262.out; have := HL263.out; have := HZ265.out; simp only [List.mem_cons, List.mem_singleton, List.not_mem_nil, or_false] at hk; omega))
          have HE270 := Lib.hid (HE260.out.after hC264.out (by intro k hk; have := HL12.out; have := HL13.out; have := HL26.out; have := HL27.out; have := HL28.out; have := HCZ.out; have := HZ115.out; have := HZ123.out; have := HL129.out; have := HL130.out; have := HL131.out; have := HZ133.out; have := HZ143.out; have := HL150.out; have := HL151.out; have := HL152.out; have := HL153.out; have := HZ155.out; have := HZ165.out; have := HL233.out; have := HL234.out; have := HL235.out; have := HL236.out; have := HL237.out; have := HL238.out; have := HL239.out; have := HL240.out; have := HZ242.out; have := HL250.out; have := HL251.out; have := HL252.out; have := HL253.out; have := HL254.out; have := HL261.out; have := HL262.out; have := HL263.out; have := HZ265.out; simp only [List.mem_cons, List.mem_singleton, List.not_mem_nil, or_false] at hk ⊢; omega))
          generalize (W256.setCell ⟨W7.heap.size, 2, none⟩ (.slice sb (acc.length + 1) scb)) = W271 at *
          skip
          go_roundw
          case rel => exact ⟨j + 1, _, q4, acc ++ [cl], by go_num, by omega, Lib.hid (by have := HAL.out; simp; omega), Lib.hid (by have h := HPC2.out; rw [HCL.out] at h; rw [show m.toNat - (j + 1) = m.toNat - j - 1 by omega]; exact h), Lib.hid (by have := HBD.out; have := HAL.out; have := H_Fg1.out; have := H_Fg2.out; have := H_Fg3.out; have := H_Fg4.out; simp only [List.length_append, List.length_cons, List.length_nil] at *; refine ⟨fun hk => ?_, ?_, ?_⟩ <;> grind), Lib.hid (by intro c hc; rcases List.mem_append.1 hc with h | h; exact HSM.out c h; simp only [List.mem_singleton] at h; rw [h]; exact HSMc.out), HE270, H_rest_267, H_node_268, H_row_269⟩
          case measure => have := HLT.out; simp only [intOf]; omega
      ·
        have hjm : m.toNat - j = 0 := by omega
        have HPE : Hid ((acc, (⟨rs, true⟩ : RestM)) = R) := Lib.hid (by rw [← HPC.out, hjm]; rfl)
        clear hjm
        obtain ⟨sa, scap, rfl⟩ := (rowCells HRW.out).slice
        have c_rest_1 : wr.cell? ⟨w.heap.size + 1, 1, none⟩ = some (.bool true) := cellAt HRE.out 1
        have c_node_0 : wr.cell? ⟨W7.heap.size, 0, none⟩ = some (.int .u8 1) := cellAt HNO.out 0
        have c_node_1 : wr.cell? ⟨W7.heap.size, 1, none⟩ = some (.int .i64 0) := cellAt HNO.out 1
        have c_node_2 : wr.cell? ⟨W7.heap.size, 2, none⟩ = some (.slice sa acc.length scap) := cellAt HNO.out 2
        have c_node_3 : wr.cell? ⟨W7.heap.size, 3, none⟩ = some (.string { data := #[] }) := cellAt HNO.out 3
        go_wp2_with fail
        clear c_rest_1 c_node_0 c_node_1 c_node_2 c_node_3
        have HEF := Lib.hid (HE25.out.after HCH.out (by intro k hk; have := HL12.out; have := HL13.out; have := HL26.out; have := HL27.out; have := HL28.out; have := HCZ.out; simp only [List.mem_cons, List.mem_singleton, List.not_mem_nil, or_false] at hk ⊢; omega))
        have hpx : parseN p = (⟨1, 0, acc, []⟩ : NodeM) := by have h1 := H_h1.out; have h2 := H_h2.out; have hh : parseN p = ⟨1, 0, (parseCells 1 m.toNat r2 []).1, []⟩   := (by unfold parseN; simp [h1, h2]); rw [hh, ← H_hR.out, ← HPE.out]
        have hcr : CRow wr W20.heap.size (.slice sa acc.length scap) acc := HRW.out
        have hsm : Small (⟨1, 0, acc, []⟩ : NodeM) := ⟨by have := HBD.out; simp only; omega, by simp, HSM.out⟩
        have H_hpx := Lib.hid hpx
        have H_hcr := Lib.hid hcr
        have H_hsm := Lib.hid hsm
        clear hpx hcr hsm
        go_at_call 124; refine (nput_any (⟨1, 0, acc, []⟩ : NodeM) _ _ (rowCells H_hcr.out) H_hsm.out).mono ?_; rintro e W272 ⟨rfl, hb⟩
        have hC273 := Lib.hid (Chg.of_below hb [])
        have HZ274 := Lib.hid hC273.out.size
        have H_res_275 := Lib.hid (hC273.out.get H_res_112.out (by simp))
        have H_rest_276 := Lib.hid (hC273.out.get HRE.out (by simp))
        have H_node_277 := Lib.hid (hC273.out.get HNO.out (by simp))
        have H_crow_278 := Lib.hid (ownsRow_chg H_hcr.out hC273.out (by simp))
        have HE279 := Lib.hid (HEF.out.after hC273.out (by simp))
        clear hb
        rcases hp : putN (⟨1, 0, acc, []⟩ : NodeM) with ⟨q, z⟩
        have HP := Lib.hid hp
        clear hp
        simp only
        by_cases hz : z = 0
        ·
          subst hz
          by_cases hq : q = p
          ·
            subst hq
            have hpe : (q != q) = false := by simp
            have htk : takeN q = some (⟨1, 0, acc, []⟩ : NodeM) := by
              unfold takeN
              rw [if_neg (by rw [HSZ.out]; simp), H_hpx.out, HP.out, if_pos rfl]
            have HTK := Lib.hid htk
            clear htk
            have c_node_0 : W272.cell? ⟨W7.heap.size, 0, none⟩ = some (.int .u8 1) := cellAt H_node_277.out 0
            have c_node_1 : W272.cell? ⟨W7.heap.size, 1, none⟩ = some (.int .i64 0) := cellAt H_node_277.out 1
            have c_node_2 : W272.cell? ⟨W7.heap.size, 2, none⟩ = some (.slice sa acc.length scap) := cellAt H_node_277.out 2
            have c_node_3 : W272.cell? ⟨W7.heap.size, 3, none⟩ = some (.string { data := #[] }) := cellAt H_node_277.out 3
            have c_res_0 : W272.cell? ⟨w.heap.size, 0, none⟩ = some (.int .u8 0) := cellAt H_res_275.out 0
            have c_res_1 : W272.cell? ⟨w.heap.size, 1, none⟩ = some (.int .i64 0) := cellAt H_res_275.out 1
            have c_res_2 : W272.cell? ⟨w.heap.size, 2, none⟩ = some (.slice none 0 0) := cellAt H_res_275.out 2
            have c_res_3 : W272.cell? ⟨w.heap.size, 3, none⟩ = some (.string { data := #[] }) := cellAt H_res_275.out 3
            have f_res_0 : W272.frozen? ⟨w.heap.size, 0, none⟩ = false := freeAt H_res_275.out 0
            have f_res_1 : W272.frozen? ⟨w.heap.size, 1, none⟩ = false := freeAt H_res_275.out 1
            have f_res_2 : W272.frozen? ⟨w.heap.size, 2, none⟩ = false := freeAt H_res_275.out 2
            have f_res_3 : W272.frozen? ⟨w.heap.size, 3, none⟩ = false := freeAt H_res_275.out 3
            go_wp2_with fail
            clear c_node_0 c_node_1 c_node_2 c_node_3 c_res_0 c_res_1 c_res_2 c_res_3 f_res_0 f_res_1 f_res_2 f_res_3
            have HL280 := Lib.hid (lt_of_block H_res_275.out)
            have HL281 := Lib.hid (lt_of_block H_rest_276.out)
            have HL282 := Lib.hid (lt_of_block H_node_277.out)
            have hC283 : Hid (Chg [w.heap.size] W272 ((((W272.setCell ⟨w.heap.size, 0, none⟩ (.int .u8 1)).setCell ⟨w.heap.size, 1, none⟩ (.int .i64 0)).setCell ⟨w.heap.size, 2, none⟩ (.slice sa acc.length scap)).setCell ⟨w.heap.size, 3, none⟩ (vs []))) := Lib.hid (((((Chg.refl [w.heap.size] W272).setCell (.inl (by simp)) (.int .u8 1)).setCell (.inl (by simp)) (.int .i64 0)).setCell (.inl (by simp)) (.slice sa acc.length scap)).setCell (.inl (by simp)) (vs []))
            have HZ284 := Lib.hid hC283.out.size
            have H_res_285 : Hid (((((W272.setCell ⟨w.heap.size, 0, none⟩ (.int .u8 1)).setCell ⟨w.heap.size, 1, none⟩ (.int .i64 0)).setCell ⟨w.heap.size, 2, none⟩ (.slice sa acc.length scap)).setCell ⟨w.heap.size, 3, none⟩ (vs [])).heap[w.heap.size]? = some (.cells #[.int .u8 1, .int .i64 0, .slice sa acc.length scap, vs []] 150)) := Lib.hid (setAt (setAt (setAt (setAt H_res_275.out 0 (.int .u8 1)) 1 (.int .i64 0)) 2 (.slice sa acc.length scap)) 3 (vs []))
            have H_rest_286 : Hid (((((W272.setCell ⟨w.heap.size, 0, none⟩ (.int .u8 1)).setCell ⟨w.heap.size, 1, none⟩ (.int .i64 0)).setCell ⟨w.heap.size, 2, none⟩ (.slice sa acc.length scap)).setCell ⟨w.heap.size, 3, none⟩ (vs [])).heap[w.heap.size + 1]? = some (restO rs true)) := Lib.hid ((setOff 3 (vs []) (by have := HL12.out; have := HL13.out; have := HL26.out; have := HL27.out; have := HL28.out; have := HCZ.out; have := HZ274.out; have := HL280.out; have := HL281.out; have := HL282.out; omega)).trans ((setOff 2 (.slice sa acc.length scap) (by have := HL12.out; have := HL13.out; have := HL26.out; have := HL27.out; have := HL28.out; have := HCZ.out; have := HZ274.out; have := HL280.out; have := HL281.out; have := HL282.out; omega)).trans ((setOff 1 (.int .i64 0) (by have := HL12.out; have := HL13.out; have := HL26.out; have := HL27.out; have := HL28.out; have := HCZ.out; have := HZ274.out; have := HL280.out; have := HL281.out; have := HL282.out; omega)).trans ((setOff 0 (.int .u8 1) (by have := HL12.out; have := HL13.out; have := HL26.out; have := HL27.out; have := HL28.out; have := HCZ.out; have := HZ274.out; have := HL280.out; have := HL281.out; have := HL282.out; omega)).trans H_rest_276.out))))
            have H_node_287 : Hid (((((W272.setCell ⟨w.heap.size, 0, none⟩ (.int .u8 1)).setCell ⟨w.heap.size, 1, none⟩ (.int .i64 0)).setCell ⟨w.heap.size, 2, none⟩ (.slice sa acc.length scap)).setCell ⟨w.heap.size, 3, none⟩ (vs [])).heap[W7.heap.size]? = some (.cells #[.int .u8 1, .int .i64 0, .slice sa acc.length scap, .string { data := #[] }] 150)) := Lib.hid ((setOff 3 (vs []) (by have := HL12.out; have := HL13.out; have := HL26.out; have := HL27.out; have := HL28.out; have := HCZ.out; have := HZ274.out; have := HL280.out; have := HL281.out; have := HL282.out; omega)).trans ((setOff 2 (.slice sa acc.length scap) (by have := HL12.out; have := HL13.out; have := HL26.out; have := HL27.out; have := HL28.out; have := HCZ.out; have := HZ274.out; have := HL280.out; have := HL281.out; have := HL282.out; omega)).trans ((setOff 1 (.int .i64 0) (by have := HL12.out; have := HL13.out; have := HL26.out; have := HL27.out; have := HL28.out; have := HCZ.out; have := HZ274.out; have := HL280.out; have := HL281.out; have := HL282.out; omega)).trans ((setOff 0 (.int .u8 1) (by have := HL12.out; have := HL13.out; have := HL26.out; have := HL27.out; have := HL28.out; have := HCZ.out; have := HZ274.out; have := HL280.out; have := HL281.out; have := HL282.out; omega)).trans H_node_277.out))))
            have H_crow_288 := Lib.hid (ownsRow_chg H_crow_278.out hC283.out (by intro k hk; have := HL12.out; have := HL13.out; have := HL26.out; have := HL27.out; have := HL28.out; have := HCZ.out; have := HZ274.out; have := HL280.out; have := HL281.out; have := HL282.out; have := HZ284.out; simp only [List.mem_cons, List.mem_singleton, List.not_mem_nil, or_false] at hk; omega))
            have HE289 := Lib.hid (HE279.out.after hC283.out (by intro k hk; have := HL12.out; have := HL13.out; have := HL26.out; have := HL27.out; have := HL28.out; have := HCZ.out; have := HZ274.out; have := HL280.out; have := HL281.out; have := HL282.out; have := HZ284.out; simp only [List.mem_cons, List.mem_singleton, List.not_mem_nil, or_false] at hk ⊢; omega))
            generalize ((((W272.setCell ⟨w.heap.size, 0, none⟩ (.int .u8 1)).setCell ⟨w.heap.size, 1, none⟩ (.int .i64 0)).setCell ⟨w.heap.size, 2, none⟩ (.slice sa acc.length scap)).setCell ⟨w.heap.size, 3, none⟩ (vs [])) = W290 at *
            have c_res_0 : W290.cell? ⟨w.heap.size, 0, none⟩ = some (.int .u8 1) := cellAt H_res_285.out 0
            have c_res_1 : W290.cell? ⟨w.heap.size, 1, none⟩ = some (.int .i64 0) := cellAt H_res_285.out 1
            have c_res_2 : W290.cell? ⟨w.heap.size, 2, none⟩ = some (.slice sa acc.length scap) := cellAt H_res_285.out 2
            have c_res_3 : W290.cell? ⟨w.heap.size, 3, none⟩ = some (vs []) := cellAt H_res_285.out 3
            exact bodyPost_ret (v := .tuple #[.agg #[.int .u8 1, .int .i64 0, .slice sa acc.length scap, vs []], .int .i64 0]) (by simp [results, Tryz.results123, go_sem, c_res_0, c_res_1, c_res_2, c_res_3]; try rfl) rfl (TakePost.mk (.slice sa acc.length scap) (by rw [HTK.out]; rfl) (by rw [HTK.out]; exact ownsRow_low H_crow_288.out (by have := HL12.out; have := HL13.out; have := HL26.out; have := HL27.out; have := HL28.out; have := HCZ.out; have := HE25.out.size; omega)) (HE289.out.to_below (Nat.le_refl _) (by simp)))
          ·
            have hpe : (q != p) = true := by simpa using hq
            have hpe2 : (q == p) = false := by simpa using hq
            have htk : takeN p = none := by
              unfold takeN
              rw [if_neg (by rw [HSZ.out]; simp), H_hpx.out, HP.out, if_neg (by simp [*])]
            have HTK := Lib.hid htk
            clear htk
            have c_res_0 : W272.cell? ⟨w.heap.size, 0, none⟩ = some (.int .u8 0) := cellAt H_res_275.out 0
            have c_res_1 : W272.cell? ⟨w.heap.size, 1, none⟩ = some (.int .i64 0) := cellAt H_res_275.out 1
            have c_res_2 : W272.cell? ⟨w.heap.size, 2, none⟩ = some (.slice none 0 0) := cellAt H_res_275.out 2
            have c_res_3 : W272.cell? ⟨w.heap.size, 3, none⟩ = some (.string { data := #[] }) := cellAt H_res_275.out 3
            have f_res_0 : W272.frozen? ⟨w.heap.size, 0, none⟩ = false := freeAt H_res_275.out 0
            have f_res_1 : W272.frozen? ⟨w.heap.size, 1, none⟩ = false := freeAt H_res_275.out 1
            have f_res_2 : W272.frozen? ⟨w.heap.size, 2, none⟩ = false := freeAt H_res_275.out 2
            have f_res_3 : W272.frozen? ⟨w.heap.size, 3, none⟩ = false := freeAt H_res_275.out 3
            go_wp2_with fail
            clear c_res_0 c_res_1 c_res_2 c_res_3 f_res_0 f_res_1 f_res_2 f_res_3
            have HL291 := Lib.hid (lt_of_block H_res_275.out)
            have HL292 := Lib.hid (lt_of_block H_rest_276.out)
            have HL293 := Lib.hid (lt_of_block H_node_277.out)
            have hC294 : Hid (Chg [w.heap.size] W272 ((((W272.setCell ⟨w.heap.size, 0, none⟩ (.int .u8 0)).setCell ⟨w.heap.size, 1, none⟩ (.int .i64 0)).setCell ⟨w.heap.size, 2, none⟩ (.slice none 0 0)).setCell ⟨w.heap.size, 3, none⟩ (.string { data := #[] }))) := Lib.hid (((((Chg.refl [w.heap.size] W272).setCell (.inl (by simp)) (.int .u8 0)).setCell (.inl (by simp)) (.int .i64 0)).setCell (.inl (by simp)) (.slice none 0 0)).setCell (.inl (by simp)) (.string { data := #[] }))
            have HZ295 := Lib.hid hC294.out.size
            have H_res_296 : Hid (((((W272.setCell ⟨w.heap.size, 0, none⟩ (.int .u8 0)).setCell ⟨w.heap.size, 1, none⟩ (.int .i64 0)).setCell ⟨w.heap.size, 2, none⟩ (.slice none 0 0)).setCell ⟨w.heap.size, 3, none⟩ (.string { data := #[] })).heap[w.heap.size]? = some (.cells #[.int .u8 0, .int .i64 0, .slice none 0 0, .string { data := #[] }] 150)) := Lib.hid (setAt (setAt (setAt (setAt H_res_275.out 0 (.int .u8 0)) 1 (.int .i64 0)) 2 (.slice none 0 0)) 3 (.string { data := #[] }))
            have H_rest_297 : Hid (((((W272.setCell ⟨w.heap.size, 0, none⟩ (.int .u8 0)).setCell ⟨w.heap.size, 1, none⟩ (.int .i64 0)).setCell ⟨w.heap.size, 2, none⟩ (.slice none 0 0)).setCell ⟨w.heap.size, 3, none⟩ (.string { data := #[] })).heap[w.heap.size + 1]? = some (restO rs true)) := Lib.hid ((setOff 3 (.string { data := #[] }) (by have := HL12.out; have := HL13.out; have := HL26.out; have := HL27.out; have := HL28.out; have := HCZ.out; have := HZ274.out; have := HL291.out; have := HL292.out; have := HL293.out; omega)).trans ((setOff 2 (.slice none 0 0) (by have := HL12.out; have := HL13.out; have := HL26.out; have := HL27.out; have := HL28.out; have := HCZ.out; have := HZ274.out; have := HL291.out; have := HL292.out; have := HL293.out; omega)).trans ((setOff 1 (.int .i64 0) (by have := HL12.out; have := HL13.out; have := HL26.out; have := HL27.out; have := HL28.out; have := HCZ.out; have := HZ274.out; have := HL291.out; have := HL292.out; have := HL293.out; omega)).trans ((setOff 0 (.int .u8 0) (by have := HL12.out; have := HL13.out; have := HL26.out; have := HL27.out; have := HL28.out; have := HCZ.out; have := HZ274.out; have := HL291.out; have := HL292.out; have := HL293.out; omega)).trans H_rest_276.out))))
            have H_node_298 : Hid (((((W272.setCell ⟨w.heap.size, 0, none⟩ (.int .u8 0)).setCell ⟨w.heap.size, 1, none⟩ (.int .i64 0)).setCell ⟨w.heap.size, 2, none⟩ (.slice none 0 0)).setCell ⟨w.heap.size, 3, none⟩ (.string { data := #[] })).heap[W7.heap.size]? = some (.cells #[.int .u8 1, .int .i64 0, .slice sa acc.length scap, .string { data := #[] }] 150)) := Lib.hid ((setOff 3 (.string { data := #[] }) (by have := HL12.out; have := HL13.out; have := HL26.out; have := HL27.out; have := HL28.out; have := HCZ.out; have := HZ274.out; have := HL291.out; have := HL292.out; have := HL293.out; omega)).trans ((setOff 2 (.slice none 0 0) (by have := HL12.out; have := HL13.out; have := HL26.out; have := HL27.out; have := HL28.out; have := HCZ.out; have := HZ274.out; have := HL291.out; have := HL292.out; have := HL293.out; omega)).trans ((setOff 1 (.int .i64 0) (by have := HL12.out; have := HL13.out; have := HL26.out; have := HL27.out; have := HL28.out; have := HCZ.out; have := HZ274.out; have := HL291.out; have := HL292.out; have := HL293.out; omega)).trans ((setOff 0 (.int .u8 0) (by have := HL12.out; have := HL13.out; have := HL26.out; have := HL27.out; have := HL28.out; have := HCZ.out; have := HZ274.out; have := HL291.out; have := HL292.out; have := HL293.out; omega)).trans H_node_277.out))))
            have H_crow_299 := Lib.hid (ownsRow_chg H_crow_278.out hC294.out (by intro k hk; have := HL12.out; have := HL13.out; have := HL26.out; have := HL27.out; have := HL28.out; have := HCZ.out; have := HZ274.out; have := HL291.out; have := HL292.out; have := HL293.out; have := HZ295.out; simp only [List.mem_cons, List.mem_singleton, List.not_mem_nil, or_false] at hk; omega))
            have HE300 := Lib.hid (HE279.out.after hC294.out (by intro k hk; have := HL12.out; have := HL13.out; have := HL26.out; have := HL27.out; have := HL28.out; have := HCZ.out; have := HZ274.out; have := HL291.out; have := HL292.out; have := HL293.out; have := HZ295.out; simp only [List.mem_cons, List.mem_singleton, List.not_mem_nil, or_false] at hk ⊢; omega))
            generalize ((((W272.setCell ⟨w.heap.size, 0, none⟩ (.int .u8 0)).setCell ⟨w.heap.size, 1, none⟩ (.int .i64 0)).setCell ⟨w.heap.size, 2, none⟩ (.slice none 0 0)).setCell ⟨w.heap.size, 3, none⟩ (.string { data := #[] })) = W301 at *
            have c_res_0 : W301.cell? ⟨w.heap.size, 0, none⟩ = some (.int .u8 0) := cellAt H_res_296.out 0
            have c_res_1 : W301.cell? ⟨w.heap.size, 1, none⟩ = some (.int .i64 0) := cellAt H_res_296.out 1
            have c_res_2 : W301.cell? ⟨w.heap.size, 2, none⟩ = some (.slice none 0 0) := cellAt H_res_296.out 2
            have c_res_3 : W301.cell? ⟨w.heap.size, 3, none⟩ = some (.string { data := #[] }) := cellAt H_res_296.out 3
            exact bodyPost_ret (v := .tuple #[.agg #[.int .u8 0, .int .i64 0, .slice none 0 0, .string { data := #[] }], .int .i64 7]) (by simp [results, Tryz.results123, go_sem, c_res_0, c_res_1, c_res_2, c_res_3]; try rfl) rfl (TakePost.mk (.slice none 0 0) (by rw [HTK.out]; rfl) (by rw [HTK.out]; exact World.ownsRow_nil _ _ _ _) (HE300.out.to_below (Nat.le_refl _) (by simp)))
        ·
          have hz1 : (z == 0) = false := by simpa using hz
          have hz2 : (z != 0) = true := by simpa using hz
          have htk : takeN p = none := by
            unfold takeN
            rw [if_neg (by rw [HSZ.out]; simp), H_hpx.out, HP.out, if_neg (by simp [*])]
          have HTK := Lib.hid htk
          clear htk
          have c_res_0 : W272.cell? ⟨w.heap.size, 0, none⟩ = some (.int .u8 0) := cellAt H_res_275.out 0
          have c_res_1 : W272.cell? ⟨w.heap.size, 1, none⟩ = some (.int .i64 0) := cellAt H_res_275.out 1
          have c_res_2 : W272.cell? ⟨w.heap.size, 2, none⟩ = some (.slice none 0 0) := cellAt H_res_275.out 2
          have c_res_3 : W272.cell? ⟨w.heap.size, 3, none⟩ = some (.string { data := #[] }) := cellAt H_res_275.out 3
          have f_res_0 : W272.frozen? ⟨w.heap.size, 0, none⟩ = false := freeAt H_res_275.out 0
          have f_res_1 : W272.frozen? ⟨w.heap.size, 1, none⟩ = false := freeAt H_res_275.out 1
          have f_res_2 : W272.frozen? ⟨w.heap.size, 2, none⟩ = false := freeAt H_res_275.out 2
          have f_res_3 : W272.frozen? ⟨w.heap.size, 3, none⟩ = false := freeAt H_res_275.out 3
          go_wp2_with fail
          clear c_res_0 c_res_1 c_res_2 c_res_3 f_res_0 f_res_1 f_res_2 f_res_3
          have HL302 := Lib.hid (lt_of_block H_res_275.out)
          have HL303 := Lib.hid (lt_of_block H_rest_276.out)
          have HL304 := Lib.hid (lt_of_block H_node_277.out)
          have hC305 : Hid (Chg [w.heap.size] W272 ((((W272.setCell ⟨w.heap.size, 0, none⟩ (.int .u8 0)).setCell ⟨w.heap.size, 1, none⟩ (.int .i64 0)).setCell ⟨w.heap.size, 2, none⟩ (.slice none 0 0)).setCell ⟨w.heap.size, 3, none⟩ (.string { data := #[] }))) := Lib.hid (((((Chg.refl [w.heap.size] W272).setCell (.inl (by simp)) (.int .u8 0)).setCell (.inl (by simp)) (.int .i64 0)).setCell (.inl (by simp)) (.slice none 0 0)).setCell (.inl (by simp)) (.string { data := #[] }))
          have HZ306 := Lib.hid hC305.out.size
          have H_res_307 : Hid (((((W272.setCell ⟨w.heap.size, 0, none⟩ (.int .u8 0)).setCell ⟨w.heap.size, 1, none⟩ (.int .i64 0)).setCell ⟨w.heap.size, 2, none⟩ (.slice none 0 0)).setCell ⟨w.heap.size, 3, none⟩ (.string { data := #[] })).heap[w.heap.size]? = some (.cells #[.int .u8 0, .int .i64 0, .slice none 0 0, .string { data := #[] }] 150)) := Lib.hid (setAt (setAt (setAt (setAt H_res_275.out 0 (.int .u8 0)) 1 (.int .i64 0)) 2 (.slice none 0 0)) 3 (.string { data := #[] }))
          have H_rest_308 : Hid (((((W272.setCell ⟨w.heap.size, 0, none⟩ (.int .u8 0)).setCell ⟨w.heap.size, 1, none⟩ (.int .i64 0)).setCell ⟨w.heap.size, 2, none⟩ (.slice none 0 0)).setCell ⟨w.heap.size, 3, none⟩ (.string { data := #[] })).heap[w.heap.size + 1]? = some (restO rs true)) := Lib.hid ((setOff 3 (.string { data := #[] }) (by have := HL12.out; have := HL13.out; have := HL26.out; have := HL27.out; have := HL28.out; have := HCZ.out; have := HZ274.out; have := HL302.out; have := HL303.out; have := HL304.out; omega)).trans ((setOff 2 (.slice none 0 0) (by have := HL12.out; have := HL13.out; have := HL26.out; have := HL27.out; have := HL28.out; have := HCZ.out; have := HZ274.out; have := HL302.out; have := HL303.out; have := HL304.out; omega)).trans ((setOff 1 (.int .i64 0) (by have := HL12.out; have := HL13.out; have := HL26.out; have := HL27.out; have := HL28.out; have := HCZ.out; have := HZ274.out; have := HL302.out; have := HL303.out; have := HL304.out; omega)).trans ((setOff 0 (.int .u8 0) (by have := HL12.out; have := HL13.out; have := HL26.out; have := HL27.out; have := HL28.out; have := HCZ.out; have := HZ274.out; have := HL302.out; have := HL303.out; have := HL304.out; omega)).trans H_rest_276.out))))
          have H_node_309 : Hid (((((W272.setCell ⟨w.heap.size, 0, none⟩ (.int .u8 0)).setCell ⟨w.heap.size, 1, none⟩ (.int .i64 0)).setCell ⟨w.heap.size, 2, none⟩ (.slice none 0 0)).setCell ⟨w.heap.size, 3, none⟩ (.string { data := #[] })).heap[W7.heap.size]? = some (.cells #[.int .u8 1, .int .i64 0, .slice sa acc.length scap, .string { data := #[] }] 150)) := Lib.hid ((setOff 3 (.string { data := #[] }) (by have := HL12.out; have := HL13.out; have := HL26.out; have := HL27.out; have := HL28.out; have := HCZ.out; have := HZ274.out; have := HL302.out; have := HL303.out; have := HL304.out; omega)).trans ((setOff 2 (.slice none 0 0) (by have := HL12.out; have := HL13.out; have := HL26.out; have := HL27.out; have := HL28.out; have := HCZ.out; have := HZ274.out; have := HL302.out; have := HL303.out; have := HL304.out; omega)).trans ((setOff 1 (.int .i64 0) (by have := HL12.out; have := HL13.out; have := HL26.out; have := HL27.out; have := HL28.out; have := HCZ.out; have := HZ274.out; have := HL302.out; have := HL303.out; have := HL304.out; omega)).trans ((setOff 0 (.int .u8 0) (by have := HL12.out; have := HL13.out; have := HL26.out; have := HL27.out; have := HL28.out; have := HCZ.out; have := HZ274.out; have := HL302.out; have := HL303.out; have := HL304.out; omega)).trans H_node_277.out))))
          have H_crow_310 := Lib.hid (ownsRow_chg H_crow_278.out hC305.out (by intro k hk; have := HL12.out; have := HL13.out; have := HL26.out; have := HL27.out; have := HL28.out; have := HCZ.out; have := HZ274.out; have := HL302.out; have := HL303.out; have := HL304.out; have := HZ306.out; simp only [List.mem_cons, List.mem_singleton, List.not_mem_nil, or_false] at hk; omega))
          have HE311 := Lib.hid (HE279.out.after hC305.out (by intro k hk; have := HL12.out; have := HL13.out; have := HL26.out; have := HL27.out; have := HL28.out; have := HCZ.out; have := HZ274.out; have := HL302.out; have := HL303.out; have := HL304.out; have := HZ306.out; simp only [List.mem_cons, List.mem_singleton, List.not_mem_nil, or_false] at hk ⊢; omega))
          generalize ((((W272.setCell ⟨w.heap.size, 0, none⟩ (.int .u8 0)).setCell ⟨w.heap.size, 1, none⟩ (.int .i64 0)).setCell ⟨w.heap.size, 2, none⟩ (.slice none 0 0)).setCell ⟨w.heap.size, 3, none⟩ (.string { data := #[] })) = W312 at *
          have c_res_0 : W312.cell? ⟨w.heap.size, 0, none⟩ = some (.int .u8 0) := cellAt H_res_307.out 0
          have c_res_1 : W312.cell? ⟨w.heap.size, 1, none⟩ = some (.int .i64 0) := cellAt H_res_307.out 1
          have c_res_2 : W312.cell? ⟨w.heap.size, 2, none⟩ = some (.slice none 0 0) := cellAt H_res_307.out 2
          have c_res_3 : W312.cell? ⟨w.heap.size, 3, none⟩ = some (.string { data := #[] }) := cellAt H_res_307.out 3
          exact bodyPost_ret (v := .tuple #[.agg #[.int .u8 0, .int .i64 0, .slice none 0 0, .string { data := #[] }], .int .i64 7]) (by simp [results, Tryz.results123, go_sem, c_res_0, c_res_1, c_res_2, c_res_3]; try rfl) rfl (TakePost.mk (.slice none 0 0) (by rw [HTK.out]; rfl) (by rw [HTK.out]; exact World.ownsRow_nil _ _ _ _) (HE311.out.to_below (Nat.le_refl _) (by simp)))

end Go.Proofs.YtobmnnihmbdfjaaGreat
