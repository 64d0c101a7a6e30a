/- BtreeKnown: the walk. -/
import Derived.Test.YtobmnnihmbdfjaaGreatAllNil
set_option linter.all false
namespace Go.Proofs.YtobmnnihmbdfjaaGreat
open Go.RowKit Go.Shelf
attribute [local go_sem] Oper.semAt_some

def kA : CellM := ⟨[97], 1, [50], 0⟩
def kB : CellM := ⟨[98], 1, [49], 0⟩
theorem k_put : putL [kB] [97] [50] = [kA, kB] := by rfl
theorem k_delA : delL [kA, kB] [97] = [kB] := by rfl
theorem k_delB : delL [kB] [98] = [] := by rfl
theorem k_isA : isN [kA, kB] [97] = true := by rfl
theorem k_isB : isN [kB] [98] = true := by rfl
theorem k_isC : isN [kA, kB] [99] = false := by rfl
theorem k_get : getOf (nextL [kA, kB] [98]) [98] = ([49], 0) := by rfl
theorem k_next : nextL [kA, kB] [97, 97] = ([98], [49], 0) := by rfl
theorem k_may1 : mayN (leafN [kB]) = true := by decide
theorem k_may2 : mayN (leafN [kA, kB]) = true := by decide
theorem k_len1 : (bytesN (leafN [kB])).length ≤ 512 := by decide
theorem k_len2 : (bytesN (leafN [kA, kB])).length ≤ 512 := by decide
theorem k_small1 : Small (leafN [kB]) := ⟨by decide, by decide, by intro c hc; simp only [List.mem_singleton] at hc; subst hc; decide⟩
theorem k_small2 : Small (leafN [kA, kB]) := ⟨by decide, by decide, by intro c hc; simp only [List.mem_cons, List.not_mem_nil, or_false] at hc; rcases hc with rfl | rfl <;> decide⟩
theorem k_small0 : Small (leafN []) := ⟨by decide, by decide, by simp⟩
theorem k_sort1 : SortedC (leafN [kB]).cells := by simp [SortedC]
theorem k_sort2 : SortedC (leafN [kA, kB]).cells := by simp only [SortedC, List.pairwise_cons, List.mem_singleton, List.not_mem_nil, forall_eq, List.Pairwise.nil, and_true, false_implies, implies_true]; rfl
theorem k_short1 : ∀ c ∈ (leafN [kB]).cells, Short c := by intro c hc; simp only [List.mem_singleton] at hc; subst hc; exact ⟨rfl, rfl, by decide⟩
theorem k_short2 : ∀ c ∈ (leafN [kA, kB]).cells, Short c := by intro c hc; simp only [List.mem_cons, List.not_mem_nil, or_false] at hc; rcases hc with rfl | rfl <;> exact ⟨rfl, rfl, by decide⟩
/-- The transaction, step by step. -/
def T2 : Tx := (txN.resize 2).put 2 (padN (bytesN (leafN [kB])))
def T3 : Tx := T2.put 2 (padN (bytesN (leafN [kA, kB])))
def T4 : Tx := T3.put 2 (padN (bytesN (leafN [kB])))
theorem v1 : txN.view base0 1 = putH hdr0 := view_put
theorem v2 : T2.view base0 2 = padN (bytesN (leafN [kB])) := view_put
theorem v3 : T3.view base0 2 = padN (bytesN (leafN [kA, kB])) := view_put
theorem v4 : T4.view base0 2 = padN (bytesN (leafN [kB])) := view_put
theorem v4h : T4.view base0 1 = putH hdr0 := by
  rw [T4, view_put_ne (by decide), T3, view_put_ne (by decide), T2, view_put_ne (by decide), view_resize (by decide) (by decide)]
  exact v1
theorem r2 : readN base0 T2 64 2 [1, 2] = some (leafN [kB]) := readN_of (by decide) (by decide) (by decide) v2 k_may1 k_len1 (by decide)
theorem r3 : readN base0 T3 64 2 [1, 2] = some (leafN [kA, kB]) := readN_of (by decide) (by decide) (by decide) v3 k_may2 k_len2 (by decide)
theorem r4 : readN base0 T4 64 2 [1, 2] = some (leafN [kB]) := readN_of (by decide) (by decide) (by decide) v4 k_may1 k_len1 (by decide)
theorem l2 : (T2.view base0 2).length ≤ 100000 := by rw [v2, padN_length _ k_len1]; decide
theorem l3 : (T3.view base0 2).length ≤ 100000 := by rw [v3, padN_length _ k_len2]; decide
theorem l4 : (T4.view base0 2).length ≤ 100000 := by rw [v4, padN_length _ k_len1]; decide

set_option maxRecDepth 100000 in
set_option maxHeartbeats 8000000 in
theorem known_walk (w : World) : Calls Tryz.prog 6 #[] w fun e w' => e = .returned (.bool true) ∧ Below w.heap.size w w' := by
  have HE1 := Lib.hid (Chg.refl [] w)
  refine (callsIn_wide (n := 3)).1 ?_
  refine callsIn_of_wp_marks Tryz.func6 rfl trivial ?_ rfl
  simp only [Tryz.ntmps6, List.size_toArray, List.length_cons, List.length_nil, Nat.reduceAdd, Nat.reduceSub, Array.replicate_succ, Array.replicate_zero, List.push_toArray, List.append_toArray, List.nil_append, List.cons_append]
  gi_wp2_with fail
  have hC2 : Hid (Chg [] w (w.alloc (.cells #[.bool false] 4))) := Lib.hid ((Chg.refl [] w).alloc (.cells #[.bool false] 4))
  have HZ3 := Lib.hid hC2.out.size
  have H_res_4 : Hid ((w.alloc (.cells #[.bool false] 4)).heap[w.heap.size]? = some (.cells #[.bool false] 4)) := Lib.hid (heapNew (by simp [World.setCell]) (.cells #[.bool false] 4))
  have HE5 := Lib.hid (HE1.out.after hC2.out (by simp))
  generalize (w.alloc (.cells #[.bool false] 4)) = W6 at *
  refine ⟨trivial, ?_⟩
  gi_at_call 13; refine (callsIn_wide.2 (fresh_any _)).mono ?_; rintro e W7 ⟨db, pb, tt, mb, lb, L, rfl, hp, hb, ht1, ht2⟩
  have HPG := Lib.hid hp
  have HTT := Lib.hid ht1
  have HMB := Lib.hid ht2
  clear hp ht1 ht2
  have HL8 := Lib.hid (lt_of_block H_res_4.out)
  have hC9 := Lib.hid (Chg.of_below hb [])
  have HZ10 := Lib.hid hC9.out.size
  have H_res_11 := Lib.hid (hC9.out.get H_res_4.out (by simp))
  have HE12 := Lib.hid (HE5.out.after hC9.out (by simp))
  clear hb
  gi_wp2_with fail
  refine ⟨trivial, ?_⟩
  gi_at_call 16; refine (callsIn_wide.2 ((Get_of _ 0 [97] _ _ (Next_zero pb [97] _)))).mono ?_; rintro e W13 ⟨rfl, hb⟩
  have HPG14 := Lib.hid (HPG.out.below hb)
  have hC15 := Lib.hid (Chg.of_below hb [])
  have HZ16 := Lib.hid hC15.out.size
  have H_res_17 := Lib.hid (hC15.out.get H_res_11.out (by simp))
  have HE18 := Lib.hid (HE12.out.after hC15.out (by simp))
  clear hb
  gi_wp2_with fail
  refine ⟨trivial, ?_⟩
  gi_at_call 15; refine (callsIn_wide.2 ((Next_zero pb [] _))).mono ?_; rintro e W19 ⟨rfl, hb⟩
  have HPG20 := Lib.hid (HPG14.out.below hb)
  have hC21 := Lib.hid (Chg.of_below hb [])
  have HZ22 := Lib.hid hC21.out.size
  have H_res_23 := Lib.hid (hC21.out.get H_res_17.out (by simp))
  have HE24 := Lib.hid (HE18.out.after hC21.out (by simp))
  clear hb
  gi_wp2_with fail
  refine ⟨trivial, ?_⟩
  gi_at_call 46; refine (callsIn_wide.2 ((Check_zero pb _))).mono ?_; rintro e W25 ⟨rfl, hb⟩
  have HPG26 := Lib.hid (HPG20.out.below hb)
  have hC27 := Lib.hid (Chg.of_below hb [])
  have HZ28 := Lib.hid hC27.out.size
  have H_res_29 := Lib.hid (hC27.out.get H_res_23.out (by simp))
  have HE30 := Lib.hid (HE24.out.after hC27.out (by simp))
  clear hb
  gi_wp2_with fail
  refine ⟨trivial, ?_⟩
  gi_at_call 14; refine (callsIn_wide.2 ((Put_zero HPG26.out [98] [49] (by decide) (by decide) (by decide) (by decide) hdr0 v1 hdr0_may hdr0_u rfl))).mono ?_; rintro e W31 ⟨rfl, hp, hc⟩
  have HPG32 := Lib.hid hp
  clear hp
  have hC33 := Lib.hid hc
  have HZ34 := Lib.hid hC33.out.size
  have H_res_35 := Lib.hid (hC33.out.get H_res_29.out (by have := HZ3.out; have := HTT.out; have := HMB.out; have := HL8.out; have := HZ10.out; have := HZ16.out; have := HZ22.out; have := HZ28.out; have := HZ34.out; simp only [List.mem_cons, List.mem_singleton, List.not_mem_nil, or_false, not_or, not_false_eq_true]; omega))
  have HE36 := Lib.hid (HE30.out.after hC33.out (by intro k hk; have := HZ3.out; have := HTT.out; have := HMB.out; have := HL8.out; have := HZ10.out; have := HZ16.out; have := HZ22.out; have := HZ28.out; have := HZ34.out; simp only [List.mem_cons, List.mem_singleton, List.not_mem_nil, or_false] at hk ⊢; omega))
  clear hc
  gi_wp2_with fail
  refine ⟨trivial, ?_⟩
  gi_at_call 14; refine (callsIn_wide.2 ((Put_leaf (tx := T2) HPG32.out 2 (by decide) (by decide) [97] [50] (by decide) (by decide) (leafN [kB]) l2 r2 rfl k_sort1 k_small1 k_short1 (by rw [k_put]; exact k_may2) (by rw [k_put]; exact k_len2) (by rw [k_put]; exact k_small2)))).mono ?_; rintro e W37 ⟨rfl, hp, hc⟩
  have HPG38 := Lib.hid hp
  clear hp
  have hC39 := Lib.hid hc
  have HZ40 := Lib.hid hC39.out.size
  have H_res_41 := Lib.hid (hC39.out.get H_res_35.out (by have := HZ3.out; have := HTT.out; have := HMB.out; have := HL8.out; have := HZ10.out; have := HZ16.out; have := HZ22.out; have := HZ28.out; have := HZ34.out; have := HZ40.out; simp only [List.mem_cons, List.mem_singleton, List.not_mem_nil, or_false, not_or, not_false_eq_true]; omega))
  have HE42 := Lib.hid (HE36.out.after hC39.out (by intro k hk; have := HZ3.out; have := HTT.out; have := HMB.out; have := HL8.out; have := HZ10.out; have := HZ16.out; have := HZ22.out; have := HZ28.out; have := HZ34.out; have := HZ40.out; simp only [List.mem_cons, List.mem_singleton, List.not_mem_nil, or_false] at hk ⊢; omega))
  clear hc
  gi_wp2_with fail
  refine ⟨trivial, ?_⟩
  gi_at_call 16; refine (callsIn_wide.2 ((Get_of _ 2 [98] _ _ (Next_leaf (tx := T3) HPG38.out 2 (by decide) [98] (leafN [kA, kB]) l3 r3 rfl k_sort2 k_small2 k_short2)))).mono ?_; rintro e W43 ⟨rfl, hb⟩
  have HPG44 := Lib.hid (HPG38.out.below hb)
  have hC45 := Lib.hid (Chg.of_below hb [])
  have HZ46 := Lib.hid hC45.out.size
  have H_res_47 := Lib.hid (hC45.out.get H_res_41.out (by simp))
  have HE48 := Lib.hid (HE42.out.after hC45.out (by simp))
  clear hb
  gi_wp2_with fail
  refine ⟨trivial, ?_⟩
  gi_at_call 15; refine (callsIn_wide.2 ((Next_leaf (tx := T3) HPG44.out 2 (by decide) [97, 97] (leafN [kA, kB]) l3 r3 rfl k_sort2 k_small2 k_short2))).mono ?_; rintro e W49 ⟨rfl, hb⟩
  have HPG50 := Lib.hid (HPG44.out.below hb)
  have hC51 := Lib.hid (Chg.of_below hb [])
  have HZ52 := Lib.hid hC51.out.size
  have H_res_53 := Lib.hid (hC51.out.get H_res_47.out (by simp))
  have HE54 := Lib.hid (HE48.out.after hC51.out (by simp))
  clear hb
  gi_wp2_with fail
  refine ⟨trivial, ?_⟩
  gi_at_call 47; refine (callsIn_wide.2 ((repeat_byte 107 101 (by decide) (by decide) _))).mono ?_; rintro e W55 ⟨rfl, hb⟩
  have HPG56 := Lib.hid (HPG50.out.below hb)
  have hC57 := Lib.hid (Chg.of_below hb [])
  have HZ58 := Lib.hid hC57.out.size
  have H_res_59 := Lib.hid (hC57.out.get H_res_53.out (by simp))
  have HE60 := Lib.hid (HE54.out.after hC57.out (by simp))
  clear hb
  gi_wp2_with fail
  refine ⟨trivial, ?_⟩
  gi_at_call 14; refine (callsIn_wide.2 ((Put_long pb 2 (List.replicate 101 107) [] _ (by decide) (by decide) (.inl (by decide))))).mono ?_; rintro e W61 ⟨rfl, hb⟩
  have HPG62 := Lib.hid (HPG56.out.below hb)
  have hC63 := Lib.hid (Chg.of_below hb [])
  have HZ64 := Lib.hid hC63.out.size
  have H_res_65 := Lib.hid (hC63.out.get H_res_59.out (by simp))
  have HE66 := Lib.hid (HE60.out.after hC63.out (by simp))
  clear hb
  gi_wp2_with fail
  refine ⟨trivial, ?_⟩
  gi_at_call 47; refine (callsIn_wide.2 ((repeat_byte 116 4001 (by decide) (by decide) _))).mono ?_; rintro e W67 ⟨rfl, hb⟩
  have HPG68 := Lib.hid (HPG62.out.below hb)
  have hC69 := Lib.hid (Chg.of_below hb [])
  have HZ70 := Lib.hid hC69.out.size
  have H_res_71 := Lib.hid (hC69.out.get H_res_65.out (by simp))
  have HE72 := Lib.hid (HE66.out.after hC69.out (by simp))
  clear hb
  gi_wp2_with fail
  refine ⟨trivial, ?_⟩
  gi_at_call 14; refine (callsIn_wide.2 ((Put_long pb 2 [97] (List.replicate 4001 116) _ (by decide) (by rw [List.length_replicate]; decide) (.inr (by rw [List.length_replicate]; decide))))).mono ?_; rintro e W73 ⟨rfl, hb⟩
  have HPG74 := Lib.hid (HPG68.out.below hb)
  have hC75 := Lib.hid (Chg.of_below hb [])
  have HZ76 := Lib.hid hC75.out.size
  have H_res_77 := Lib.hid (hC75.out.get H_res_71.out (by simp))
  have HE78 := Lib.hid (HE72.out.after hC75.out (by simp))
  clear hb
  gi_wp2_with fail
  refine ⟨trivial, ?_⟩
  gi_at_call 17; refine (callsIn_wide.2 ((Delete_no (tx := T3) HPG74.out 2 (by decide) (by decide) [99] (by decide) (leafN [kA, kB]) l3 r3 rfl k_sort2 k_small2 k_short2 k_isC))).mono ?_; rintro e W79 ⟨rfl, hb⟩
  have HPG80 := Lib.hid (HPG74.out.below hb)
  have hC81 := Lib.hid (Chg.of_below hb [])
  have HZ82 := Lib.hid hC81.out.size
  have H_res_83 := Lib.hid (hC81.out.get H_res_77.out (by simp))
  have HE84 := Lib.hid (HE78.out.after hC81.out (by simp))
  clear hb
  gi_wp2_with fail
  refine ⟨trivial, ?_⟩
  gi_at_call 17; refine (callsIn_wide.2 ((Delete_ok (tx := T3) HPG80.out 2 (by decide) (by decide) [97] (by decide) (leafN [kA, kB]) l3 r3 rfl k_sort2 k_small2 k_short2 k_isA (by rw [k_delA]; exact k_may1) (by rw [k_delA]; exact k_len1) (by rw [k_delA]; exact k_small1) (by rw [k_delA]; decide)))).mono ?_; rintro e W85 ⟨rfl, hp, hc⟩
  have HPG86 := Lib.hid hp
  clear hp
  have hC87 := Lib.hid hc
  have HZ88 := Lib.hid hC87.out.size
  have H_res_89 := Lib.hid (hC87.out.get H_res_83.out (by have := HZ3.out; have := HTT.out; have := HMB.out; have := HL8.out; have := HZ10.out; have := HZ16.out; have := HZ22.out; have := HZ28.out; have := HZ34.out; have := HZ40.out; have := HZ46.out; have := HZ52.out; have := HZ58.out; have := HZ64.out; have := HZ70.out; have := HZ76.out; have := HZ82.out; have := HZ88.out; simp only [List.mem_cons, List.mem_singleton, List.not_mem_nil, or_false, not_or, not_false_eq_true]; omega))
  have HE90 := Lib.hid (HE84.out.after hC87.out (by intro k hk; have := HZ3.out; have := HTT.out; have := HMB.out; have := HL8.out; have := HZ10.out; have := HZ16.out; have := HZ22.out; have := HZ28.out; have := HZ34.out; have := HZ40.out; have := HZ46.out; have := HZ52.out; have := HZ58.out; have := HZ64.out; have := HZ70.out; have := HZ76.out; have := HZ82.out; have := HZ88.out; simp only [List.mem_cons, List.mem_singleton, List.not_mem_nil, or_false] at hk ⊢; omega))
  clear hc
  gi_wp2_with fail
  refine ⟨trivial, ?_⟩
  gi_at_call 17; refine (callsIn_wide.2 ((Delete_empty (tx := T4) HPG86.out 2 (by decide) (by decide) [98] (by decide) (leafN [kB]) l4 r4 rfl k_sort1 k_small1 k_short1 k_isB (by rw [k_delB]; exact k_small0) k_delB hdr0 v4h hdr0_may hdr0_u))).mono ?_; rintro e W91 ⟨rfl, hp, hc⟩
  have HPG92 := Lib.hid hp
  clear hp
  have hC93 := Lib.hid hc
  have HZ94 := Lib.hid hC93.out.size
  have H_res_95 := Lib.hid (hC93.out.get H_res_89.out (by have := HZ3.out; have := HTT.out; have := HMB.out; have := HL8.out; have := HZ10.out; have := HZ16.out; have := HZ22.out; have := HZ28.out; have := HZ34.out; have := HZ40.out; have := HZ46.out; have := HZ52.out; have := HZ58.out; have := HZ64.out; have := HZ70.out; have := HZ76.out; have := HZ82.out; have := HZ88.out; have := HZ94.out; simp only [List.mem_cons, List.mem_singleton, List.not_mem_nil, or_false, not_or, not_false_eq_true]; omega))
  have HE96 := Lib.hid (HE90.out.after hC93.out (by intro k hk; have := HZ3.out; have := HTT.out; have := HMB.out; have := HL8.out; have := HZ10.out; have := HZ16.out; have := HZ22.out; have := HZ28.out; have := HZ34.out; have := HZ40.out; have := HZ46.out; have := HZ52.out; have := HZ58.out; have := HZ64.out; have := HZ70.out; have := HZ76.out; have := HZ82.out; have := HZ88.out; have := HZ94.out; simp only [List.mem_cons, List.mem_singleton, List.not_mem_nil, or_false] at hk ⊢; omega))
  clear hc
  gi_wp2_with fail
  refine ⟨trivial, ?_⟩
  gi_at_call 16; refine (callsIn_wide.2 ((Get_of _ 2 [] _ _ (Next_nil 2 [] _)))).mono ?_; rintro e W97 ⟨rfl, hb⟩
  have HPG98 := Lib.hid (HPG92.out.below hb)
  have hC99 := Lib.hid (Chg.of_below hb [])
  have HZ100 := Lib.hid hC99.out.size
  have H_res_101 := Lib.hid (hC99.out.get H_res_95.out (by simp))
  have HE102 := Lib.hid (HE96.out.after hC99.out (by simp))
  clear hb
  gi_wp2_with fail
  refine ⟨trivial, ?_⟩
  gi_at_call 14; refine (callsIn_wide.2 ((Put_nil 2 [] [] _))).mono ?_; rintro e W103 ⟨rfl, hb⟩
  have HPG104 := Lib.hid (HPG98.out.below hb)
  have hC105 := Lib.hid (Chg.of_below hb [])
  have HZ106 := Lib.hid hC105.out.size
  have H_res_107 := Lib.hid (hC105.out.get H_res_101.out (by simp))
  have HE108 := Lib.hid (HE102.out.after hC105.out (by simp))
  clear hb
  gi_wp2_with fail
  refine ⟨trivial, ?_⟩
  gi_at_call 17; refine (callsIn_wide.2 ((Delete_nil 2 [] _))).mono ?_; rintro e W109 ⟨rfl, hb⟩
  have HPG110 := Lib.hid (HPG104.out.below hb)
  have hC111 := Lib.hid (Chg.of_below hb [])
  have HZ112 := Lib.hid hC111.out.size
  have H_res_113 := Lib.hid (hC111.out.get H_res_107.out (by simp))
  have HE114 := Lib.hid (HE108.out.after hC111.out (by simp))
  clear hb
  gi_wp2_with fail
  refine ⟨trivial, ?_⟩
  gi_at_call 46; refine (callsIn_wide.2 ((Check_nil 2 _))).mono ?_; rintro e W115 ⟨rfl, hb⟩
  have HPG116 := Lib.hid (HPG110.out.below hb)
  have hC117 := Lib.hid (Chg.of_below hb [])
  have HZ118 := Lib.hid hC117.out.size
  have H_res_119 := Lib.hid (hC117.out.get H_res_113.out (by simp))
  have HE120 := Lib.hid (HE114.out.after hC117.out (by simp))
  clear hb
  gi_wp2_with fail
  refine ⟨trivial, ?_⟩
  gi_at_call 45; refine (callsIn_wide.2 (All_any (.pointer none) _ [] _ rfl)).mono ?_; rintro e WR ⟨rfl, hw⟩
  have HL121 := Lib.hid (lt_of_block H_res_119.out)
  have hA1 : WR.heap[W115.heap.size]? = some (.cells #[.pointer none] 26) := by rw [hw]; exact heapOld (heapOld (heapNew rfl _) _) _
  have hA2 : WR.heap[W115.heap.size + 1]? = some (.cells #[.int .i64 (txN.pages + 1)] 3) := by rw [hw]; exact heapOld (heapNew (by simp) _) _
  have hA3 : WR.heap[W115.heap.size + 2]? = some (.cells #[vs []] 9) := by rw [hw]; exact heapNew (by simp) _
  have hB0 : Below W115.heap.size W115 WR := by rw [hw]; exact (((Below.refl _ W115).alloc (Nat.le_refl _) _).alloc (by simp) _).alloc (by simp; omega) _
  have HB0 := Lib.hid hB0
  have HA1 := Lib.hid hA1
  have HA2 := Lib.hid hA2
  have HA3 := Lib.hid hA3
  clear hw hA1 hA2 hA3 hB0
  have HPGR := Lib.hid (HPG116.out.below HB0.out)
  have HRES := Lib.hid (Below.get HB0.out H_res_119.out)
  have HER := Lib.hid (HE120.out.after (Chg.of_below HB0.out []) (by simp))
  have HLR := Lib.hid (lt_of_block HRES.out)
  have HZR := Lib.hid HB0.out.size
  gi_wp2_with fail
  refine wpIn_rangeFunc_ownF (α := Empty) rfl (by decide) (gf := 108) (lb := #[ptr W115.heap.size, ptr (W115.heap.size + 1), ptr (W115.heap.size + 2)]) rfl trivial (enters_of Tryz.func108 (by kernel_rfl) rfl)
    (all_nil_stops _ _ _ _ (txN.pages + 1) [] WR.heap.size WR HA1.out HA2.out HA3.out) belowK_t (belowK_b (Nat.le_refl _)) (Below.refl _ _) (fun x => x.elim)
    (fun _ W => Below WR.heap.size WR W) (fun _ _ _ => False) (ownFrom_below (Nat.le_refl _) (Nat.le_refl _)) (fun _ _ _ _ _ hs _ _ => hs) (Below.refl _ _) (fun x => x.elim) ?assign ?body ?done ?stop
  case assign => exact fun _ x => x.elim
  case body => exact fun _ _ x => x.elim
  case stop => intro D c pre W _ _ h _; exact h.elim
  case done =>
    rintro D ys WD hD rfl hb hK
    have HPD := Lib.hid (HPGR.out.below hb)
    have HRD := Lib.hid (Below.get hb HRES.out)
    have HED := Lib.hid (HER.out.after (Chg.of_below hb []) (by simp))
    have HK := Lib.hid hK
    have HD := Lib.hid hD
    clear hb hK hD
    gi_wp2_with fail
    refine ⟨trivial, ?_⟩
    gi_at_call 48; refine (callsIn_wide.2 (Drop_nil _ _)).mono ?_; rintro e WE ⟨rfl, hb⟩
    have HPE := Lib.hid (HPD.out.below hb)
    have HRE := Lib.hid (Below.get hb HRD.out)
    have HEE := Lib.hid (HED.out.after (Chg.of_below hb []) (by simp))
    have HKE := Lib.hid (Below.get hb HK.out)
    clear hb
    gi_wp2_with fail
    refine ⟨trivial, ?_⟩
    gi_at_call 48; refine (callsIn_wide.2 (Drop_zero HPE.out)).mono ?_; rintro e WF ⟨rfl, hb⟩
    have HRF := Lib.hid (Below.get hb HRE.out)
    have HEF := Lib.hid (HEE.out.after (Chg.of_below hb []) (by simp))
    have HKF := Lib.hid (Below.get hb HKE.out)
    clear hb
    have hc := cellAt HRF.out 0
    have hf := freeAt HRF.out 0
    gi_wp2_with fail
    have hD : w.heap.size ≤ D := by have := HD.out; have := HLR.out; omega
    have hN : D ≠ w.heap.size := by have := HD.out; have := HLR.out; omega
    have hK' : (WF.setCell ⟨w.heap.size, 0, none⟩ (.bool true)).heap[D]? = some (.deferred (some [])) := (setOff 0 (.bool true) hN).trans HKF.out
    refine ⟨by simp, .inl ⟨_, _, rfl, run_takeDeferred hK', ?_⟩⟩
    have hc5 := cell_kept (World.cell?_setCell_same' WF ⟨w.heap.size, 0, none⟩ (.bool true) (by rw [hc]; rfl)) (grownBy_putObj' _ D (.deferred none)) (fun r e => by cases e; exact ⟨_, hK', rfl⟩)
    refine ⟨.bool true, ?_, rfl, ((HEF.out.to_below (Nat.le_refl _) (by simp)).setCell (p := ⟨w.heap.size, 0, none⟩) (Nat.le_refl _) _).trans (belowK_b (w := w) (Nat.le_refl _) _ D _ _ hD hK' rfl rfl)⟩
    simp [results, Tryz.f6, go_sem, hc5]

end Go.Proofs.YtobmnnihmbdfjaaGreat
