/- A new disk, its log, its pager, a transaction. -/
import Derived.Test.YtobmnnihmbdfjaaGreatPut
import Derived.Test.YtobmnnihmbdfjaaGreatSum2
set_option linter.all false
namespace Go.Proofs.YtobmnnihmbdfjaaGreat
open Go.RowKit

abbrev diskO (m : Nat) : Obj := .cells #[.int .i64 0, .map none, .int .i64 0, .map none, .int .i64 0, .map none, .int .i64 0, .map none, .int .i64 0, .map none, .int .i64 0, .map none, .int .i64 0, .map none, .int .i64 0, .map none, .int .i64 0, .map none, .int .i64 0, .map none, .int .i64 0, .map none, .int .i64 0, .map none, .int .i64 0, .map none, .int .i64 0, .map none, .int .i64 0, .map none, .int .i64 0, .map none, .slice none 0 0, .map (some m), .int .i64 0, .int .i64 (-1), .bool false] 168
abbrev logO (db : Nat) (p : Int × Int) : Obj := .cells #[ptr db, .int .u64 0, .int .i64 0, .int .i64 0, .bool false, .slice none 0 0, .int .u32 p.1, .int .u32 p.2, .bool false, .bool false] 259

theorem new_any (w : World) : Calls Tryz.prog 20 #[] w fun e w' => e = .returned (ptr (w.heap.size + 1)) ∧ w' = (w.alloc (.map #[] 0)).alloc (diskO w.heap.size) := by
  have hmm := @run_makeMap Tryz.prog
  go_enter Tryz.func20, Tryz.ntmps20
  go_wp2
  go_ret
  exact ⟨rfl, rfl⟩
theorem on_any (db : Nat) (m : Nat) (w : World) (h : w.heap[db]? = some (diskO m)) : Calls Tryz.prog 28 #[ptr db] w fun e w' => e = .returned (.bool true) ∧ w = w' := by
  have c := cellAt h 36
  clear h
  go_enter Tryz.func28, Tryz.ntmps28
  go_wp2
  go_ret
  exact ⟨rfl, rfl⟩
theorem is_zero (w : World) : Calls Tryz.prog 176 #[.int .i64 0] w fun e w' => e = .returned (.bool true) ∧ w = w' := by
  go_enter Tryz.func176, Tryz.ntmps176
  go_wp2
  go_ret
  exact ⟨rfl, rfl⟩
theorem is_one (w : World) : Calls Tryz.prog 176 #[.int .i64 1] w fun e w' => e = .returned (.bool true) ∧ w = w' := by
  go_enter Tryz.func176, Tryz.ntmps176
  go_wp2
  go_ret
  exact ⟨rfl, rfl⟩
theorem size_zero (db : Nat) (m : Nat) (w : World) (h : w.heap[db]? = some (diskO m)) : Calls Tryz.prog 154 #[ptr db, .int .i64 0] w fun e w' => e = .returned (.int .i64 0) ∧ w = w' := by
  have c := cellAt h 0
  clear h
  go_enter Tryz.func154, Tryz.ntmps154
  go_wp2_with (go_at_call 176; refine (is_zero _).mono ?_; rintro e w' ⟨rfl, rfl⟩)
  go_ret
  exact ⟨rfl, rfl⟩
theorem size_one (db : Nat) (m : Nat) (w : World) (h : w.heap[db]? = some (diskO m)) : Calls Tryz.prog 154 #[ptr db, .int .i64 1] w fun e w' => e = .returned (.int .i64 0) ∧ w = w' := by
  have c := cellAt h 2
  clear h
  go_enter Tryz.func154, Tryz.ntmps154
  go_wp2_with (go_at_call 176; refine (is_one _).mono ?_; rintro e w' ⟨rfl, rfl⟩)
  go_ret
  exact ⟨rfl, rfl⟩
theorem noughts_any (n : Int) (h0 : 0 ≤ n) (h9 : n ≤ 4096) (w : World) : Calls Tryz.prog 153 #[.int .i64 n] w fun e w' => e = .returned (vs (zeros n.toNat)) ∧ Below w.heap.size w w' := by
  go_enter Tryz.func153, Tryz.ntmps153
  go_wp2_with (go_at_call 47; refine (repeat_zero n h0 h9 _).mono ?_; rintro e w' ⟨rfl, hb⟩)
  go_ret
  exact ⟨rfl, hb⟩
theorem lpages (db lb : Nat) (p : Int × Int) (w : World) (h : w.heap[lb]? = some (logO db p)) : Calls Tryz.prog 84 #[ptr lb] w fun e w' => e = .returned (.int .i64 0) ∧ w = w' := by
  have c := cellAt h 3
  clear h
  go_enter Tryz.func84, Tryz.ntmps84
  go_wp2
  go_ret
  exact ⟨rfl, rfl⟩
theorem lmark (db lb : Nat) (p : Int × Int) (w : World) (h : w.heap[lb]? = some (logO db p)) : Calls Tryz.prog 85 #[ptr lb] w fun e w' => e = .returned (.int .i64 0) ∧ w = w' := by
  have c := cellAt h 5
  clear h
  go_enter Tryz.func85, Tryz.ntmps85
  go_wp2
  go_ret
  exact ⟨rfl, rfl⟩
set_option maxRecDepth 100000 in
set_option maxHeartbeats 1000000 in
theorem lpage (db lb m : Nat) (p : Int × Int) (w : World) (h : w.heap[lb]? = some (logO db p)) (hd : w.heap[db]? = some (diskO m)) (k : Int) (h1 : 1 ≤ k) (h2 : k ≤ 256) :
    Calls Tryz.prog 86 #[ptr lb, .int .i64 k, .int .i64 0] w fun e w' => e = .returned (.tuple #[vs (zeros 512), .int .i64 0]) ∧ Below w.heap.size w w' := by
  have c0 := cellAt h 0
  have c5 := cellAt h 5
  have HD := Lib.hid hd
  clear h hd
  have g1 : ¬ k < 1 := by omega
  have g2 : ¬ 256 < k := by omega
  have g3 : (0 : Int) < 8 * k := by omega
  go_enter Tryz.func86, Tryz.ntmps86
  go_wp2_with fail
  refine wp_loop_rounds 1 ?_
  rw [rounds_succ]
  go_wp2_with (first | (go_at_call 154; refine (size_zero db m _ HD.out).mono ?_; rintro e w' ⟨rfl, rfl⟩) | (go_at_call 153; refine (noughts_any 512 (by decide) (by decide) _).mono ?_; rintro e w' ⟨rfl, hb⟩))
  go_ret2
  exact ⟨rfl, hb⟩
def base0 : Int → List UInt8 := fun _ => zeros 512
theorem logIs_new {w : World} {db lb m : Nat} {p : Int × Int} (h : w.heap[lb]? = some (logO db p)) (hd : w.heap[db]? = some (diskO m)) : LogIs w lb [lb, db] 0 0 base0 :=
  ⟨fun k hk => by
      simp only [List.mem_cons, List.not_mem_nil, or_false] at hk
      rcases hk with rfl | rfl
      · exact lt_of_block h
      · exact lt_of_block hd,
    fun w' hk => lpages db lb p w' ((hk lb (by simp)).trans h), fun w' hk => lmark db lb p w' ((hk lb (by simp)).trans h),
    fun w' hk k h1 h2 => lpage db lb m p w' ((hk lb (by simp)).trans h) ((hk db (by simp)).trans hd) k h1 h2⟩

def OpenPost (db : Nat) (w : World) (e : Ending) (w' : World) : Prop := ∃ lb p, e = .returned (.tuple #[ptr lb, .int .i64 0]) ∧ w'.heap[lb]? = some (logO db p) ∧ Below w.heap.size w w'

set_option maxRecDepth 100000 in
set_option maxHeartbeats 4000000 in
theorem open_new (db m : Nat) (w : World) (hd : w.heap[db]? = some (diskO m)) : Calls Tryz.prog 82 #[ptr db] w (OpenPost db w) := by
  have HD := Lib.hid hd
  clear hd
  have HE1 := Lib.hid (Chg.refl [] w)
  go_enter Tryz.func82, Tryz.ntmps82
  go_wp2_with fail
  go_at_call 28; refine (on_any db m _ HD.out).mono ?_; rintro e w' ⟨rfl, rfl⟩
  go_wp2_with fail
  have HL2 := Lib.hid (lt_of_block HD.out)
  have hC3 : Hid (Chg [] w (w.alloc (.cells #[ptr db, .int .u64 0, .int .i64 0, .int .i64 0, .bool false, .slice none 0 0, .int .u32 0, .int .u32 0, .bool false, .bool false] 259))) := Lib.hid ((Chg.refl [] w).alloc (.cells #[ptr db, .int .u64 0, .int .i64 0, .int .i64 0, .bool false, .slice none 0 0, .int .u32 0, .int .u32 0, .bool false, .bool false] 259))
  have HZ4 := Lib.hid hC3.out.size
  have H_d_5 : Hid ((w.alloc (.cells #[ptr db, .int .u64 0, .int .i64 0, .int .i64 0, .bool false, .slice none 0 0, .int .u32 0, .int .u32 0, .bool false, .bool false] 259)).heap[db]? = some (diskO m)) := Lib.hid (heapOld HD.out (.cells #[ptr db, .int .u64 0, .int .i64 0, .int .i64 0, .bool false, .slice none 0 0, .int .u32 0, .int .u32 0, .bool false, .bool false] 259))
  have H_l_6 : Hid ((w.alloc (.cells #[ptr db, .int .u64 0, .int .i64 0, .int .i64 0, .bool false, .slice none 0 0, .int .u32 0, .int .u32 0, .bool false, .bool false] 259)).heap[w.heap.size]? = some (.cells #[ptr db, .int .u64 0, .int .i64 0, .int .i64 0, .bool false, .slice none 0 0, .int .u32 0, .int .u32 0, .bool false, .bool false] 259)) := Lib.hid (heapNew (by simp [World.setCell]) (.cells #[ptr db, .int .u64 0, .int .i64 0, .int .i64 0, .bool false, .slice none 0 0, .int .u32 0, .int .u32 0, .bool false, .bool false] 259))
  have HE7 := Lib.hid (HE1.out.after hC3.out (by simp))
  generalize (w.alloc (.cells #[ptr db, .int .u64 0, .int .i64 0, .int .i64 0, .bool false, .slice none 0 0, .int .u32 0, .int .u32 0, .bool false, .bool false] 259)) = W8 at *
  go_at_call 153; refine (noughts_any 64 (by decide) (by decide) _).mono ?_; rintro e W9 ⟨rfl, hb⟩
  have hC10 := Lib.hid (Chg.of_below hb [])
  have HZ11 := Lib.hid hC10.out.size
  have H_d_12 := Lib.hid (hC10.out.get H_d_5.out (by simp))
  have H_l_13 := Lib.hid (hC10.out.get H_l_6.out (by simp))
  have HE14 := Lib.hid (HE7.out.after hC10.out (by simp))
  clear hb
  go_wp2_with fail
  go_at_call 154; refine (size_one db m _ H_d_12.out).mono ?_; rintro e w' ⟨rfl, rfl⟩
  go_wp2_with fail
  go_at_call 153; refine (noughts_any 64 (by decide) (by decide) _).mono ?_; rintro e W15 ⟨rfl, hb⟩
  have hC16 := Lib.hid (Chg.of_below hb [])
  have HZ17 := Lib.hid hC16.out.size
  have H_d_18 := Lib.hid (hC16.out.get H_d_12.out (by simp))
  have H_l_19 := Lib.hid (hC16.out.get H_l_13.out (by simp))
  have HE20 := Lib.hid (HE14.out.after hC16.out (by simp))
  clear hb
  have hzz : (zeros 64 == zeros 64) = true := by simp
  go_wp2_with fail
  go_at_call 154; refine (size_zero db m _ H_d_18.out).mono ?_; rintro e w' ⟨rfl, rfl⟩
  go_wp2_with fail
  go_at_call 156; refine (start_any 0 (by decide) (by decide) _).mono ?_; rintro e W21 ⟨rfl, hb⟩
  have hC22 := Lib.hid (Chg.of_below hb [])
  have HZ23 := Lib.hid hC22.out.size
  have H_d_24 := Lib.hid (hC22.out.get H_d_18.out (by simp))
  have H_l_25 := Lib.hid (hC22.out.get H_l_19.out (by simp))
  have HE26 := Lib.hid (HE20.out.after hC22.out (by simp))
  clear hb
  rcases hst : startP 0 with ⟨r1, r2⟩
  clear hst
  have c_l_3 : W21.cell? ⟨w.heap.size, 3, none⟩ = some (.int .i64 0) := cellAt H_l_25.out 3
  have c_l_6 : W21.cell? ⟨w.heap.size, 6, none⟩ = some (.int .u32 0) := cellAt H_l_25.out 6
  have c_l_7 : W21.cell? ⟨w.heap.size, 7, none⟩ = some (.int .u32 0) := cellAt H_l_25.out 7
  have f_l_3 : W21.frozen? ⟨w.heap.size, 3, none⟩ = false := freeAt H_l_25.out 3
  have f_l_6 : W21.frozen? ⟨w.heap.size, 6, none⟩ = false := freeAt H_l_25.out 6
  have f_l_7 : W21.frozen? ⟨w.heap.size, 7, none⟩ = false := freeAt H_l_25.out 7
  go_wp2_with fail
  clear c_l_3 c_l_6 c_l_7 f_l_3 f_l_6 f_l_7
  have HL27 := Lib.hid (lt_of_block H_d_24.out)
  have HL28 := Lib.hid (lt_of_block H_l_25.out)
  have hC29 : Hid (Chg [w.heap.size] W21 (((W21.setCell ⟨w.heap.size, 3, none⟩ (.int .i64 0)).setCell ⟨w.heap.size, 6, none⟩ (.int .u32 r1)).setCell ⟨w.heap.size, 7, none⟩ (.int .u32 r2))) := Lib.hid ((((Chg.refl [w.heap.size] W21).setCell (.inl (by simp)) (.int .i64 0)).setCell (.inl (by simp)) (.int .u32 r1)).setCell (.inl (by simp)) (.int .u32 r2))
  have HZ30 := Lib.hid hC29.out.size
  have H_d_31 : Hid ((((W21.setCell ⟨w.heap.size, 3, none⟩ (.int .i64 0)).setCell ⟨w.heap.size, 6, none⟩ (.int .u32 r1)).setCell ⟨w.heap.size, 7, none⟩ (.int .u32 r2)).heap[db]? = some (diskO m)) := Lib.hid ((setOff 7 (.int .u32 r2) (by have := HL2.out; have := HZ4.out; have := HZ11.out; have := HZ17.out; have := HZ23.out; have := HL27.out; have := HL28.out; omega)).trans ((setOff 6 (.int .u32 r1) (by have := HL2.out; have := HZ4.out; have := HZ11.out; have := HZ17.out; have := HZ23.out; have := HL27.out; have := HL28.out; omega)).trans ((setOff 3 (.int .i64 0) (by have := HL2.out; have := HZ4.out; have := HZ11.out; have := HZ17.out; have := HZ23.out; have := HL27.out; have := HL28.out; omega)).trans H_d_24.out)))
  have H_l_32 : Hid ((((W21.setCell ⟨w.heap.size, 3, none⟩ (.int .i64 0)).setCell ⟨w.heap.size, 6, none⟩ (.int .u32 r1)).setCell ⟨w.heap.size, 7, none⟩ (.int .u32 r2)).heap[w.heap.size]? = some (.cells #[ptr db, .int .u64 0, .int .i64 0, .int .i64 0, .bool false, .slice none 0 0, .int .u32 r1, .int .u32 r2, .bool false, .bool false] 259)) := Lib.hid (setAt (setAt (setAt H_l_25.out 3 (.int .i64 0)) 6 (.int .u32 r1)) 7 (.int .u32 r2))
  have HE33 := Lib.hid (HE26.out.after hC29.out (by intro k hk; have := HL2.out; have := HZ4.out; have := HZ11.out; have := HZ17.out; have := HZ23.out; have := HL27.out; have := HL28.out; have := HZ30.out; simp only [List.mem_cons, List.mem_singleton, List.not_mem_nil, or_false] at hk ⊢; omega))
  generalize (((W21.setCell ⟨w.heap.size, 3, none⟩ (.int .i64 0)).setCell ⟨w.heap.size, 6, none⟩ (.int .u32 r1)).setCell ⟨w.heap.size, 7, none⟩ (.int .u32 r2)) = W34 at *
  go_ret2
  exact ⟨w.heap.size, (r1, r2), rfl, H_l_32.out, HE33.out.to_below (Nat.le_refl _) (by simp)⟩

abbrev pagerO (lb : Nat) : Obj := .cells #[ptr lb, .pointer none, .slice none 0 0, .int .i64 0] 175
def POpenPost (db : Nat) (w : World) (e : Ending) (w' : World) : Prop := ∃ pb lb p, e = .returned (.tuple #[ptr pb, .int .i64 0]) ∧ w'.heap[lb]? = some (logO db p) ∧ w'.heap[pb]? = some (pagerO lb) ∧ w.heap.size ≤ pb ∧ Below w.heap.size w w'
set_option maxRecDepth 100000 in
set_option maxHeartbeats 1000000 in
theorem popen_new (db m : Nat) (w : World) (hd : w.heap[db]? = some (diskO m)) : Calls Tryz.prog 22 #[ptr db] w (POpenPost db w) := by
  have HD := Lib.hid hd
  clear hd
  go_enter Tryz.func22, Tryz.ntmps22
  go_wp2_with (go_at_call 82; refine (open_new db m _ HD.out).mono ?_; rintro e w1 ⟨lb, p, rfl, hl, hb⟩; have HL := Lib.hid hl; have HB := Lib.hid hb; clear hl hb)
  go_ret2
  exact ⟨w1.heap.size, lb, p, rfl, heapOld HL.out _, heap_alloc_new w1 _, HB.out.size, HB.out.alloc HB.out.size _⟩
theorem ready_out (pb lb : Nat) (w : World) (h : w.heap[pb]? = some (pagerO lb)) : Calls Tryz.prog 125 #[ptr pb] w fun e w' => e = .returned (.int .i64 9) ∧ w = w' := by
  have c := cellAt h 1
  clear h
  go_enter Tryz.func125, Tryz.ntmps125
  go_wp2
  go_ret
  exact ⟨rfl, rfl⟩
def tx0 (n : Int) : Tx := ⟨n, fun _ => none⟩
def BeginPost (pb lb : Nat) (L : List Nat) (n : Int) (base : Int → List UInt8) (w : World) (e : Ending) (w' : World) : Prop :=
  ∃ tb mb, e = .returned (.int .i64 0) ∧ PgIn w' pb tb mb lb L (.slice none 0 0) 0 base (tx0 n) ∧ Chg [pb] w w' ∧ w.heap.size ≤ tb ∧ w.heap.size ≤ mb

set_option maxRecDepth 100000 in
set_option maxHeartbeats 4000000 in
theorem begin_any {w : World} {pb lb : Nat} {L : List Nat} {n mk : Int} {base : Int → List UInt8} (hp : w.heap[pb]? = some (pagerO lb)) (hl : LogIs w lb L n mk base) (hoff : pb ∉ L) (h0 : 0 ≤ n) (h9 : n ≤ 256) : Calls Tryz.prog 78 #[ptr pb] w (BeginPost pb lb L n base w) := by
  have hmm := @run_makeMap Tryz.prog
  have HP := Lib.hid hp
  have HLG := Lib.hid hl
  have HOFF := Lib.hid hoff
  clear hp hl hoff
  have HE1 := Lib.hid (Chg.refl [pb] w)
  go_enter Tryz.func78, Tryz.ntmps78
  go_wp2_with fail
  go_at_call 125; refine (ready_out pb lb _ HP.out).mono ?_; rintro e w' ⟨rfl, rfl⟩
  have c_p_0 : w.cell? ⟨pb, 0, none⟩ = some (ptr lb) := cellAt HP.out 0
  go_wp2_with fail
  clear c_p_0
  go_at_call 84; refine (HLG.out.pages _ (fun k hk => rfl)).mono ?_; rintro e w' ⟨rfl, rfl⟩
  have c_p_1 : w.cell? ⟨pb, 1, none⟩ = some (.pointer none) := cellAt HP.out 1
  have f_p_1 : w.frozen? ⟨pb, 1, none⟩ = false := freeAt HP.out 1
  have o_p_1_1 : (w.alloc (.map #[] 0)).cell? ⟨pb, 1, none⟩ = some (.pointer none) := cellAt (heapOld HP.out (.map #[] 0)) 1
  have o_p_1_2 : ((w.alloc (.map #[] 0)).alloc (.cells #[.int .i64 n, .map (some w.heap.size)] 205)).cell? ⟨pb, 1, none⟩ = some (.pointer none) := cellAt (heapOld (heapOld HP.out (.map #[] 0)) (.cells #[.int .i64 n, .map (some w.heap.size)] 205)) 1
  have ff : ((w.alloc (.map #[] 0)).alloc (.cells #[.int .i64 n, .map (some w.heap.size)] 205)).frozen? ⟨pb, 1, none⟩ = false := freeAt (heapOld (heapOld HP.out _) _) 1
  go_wp2_with fail
  clear c_p_1 f_p_1 o_p_1_1 o_p_1_2
  clear ff
  have HL2 := Lib.hid (lt_of_block HP.out)
  have hC3 : Hid (Chg [pb] w (((w.alloc (.map #[] 0)).alloc (.cells #[.int .i64 n, .map (some w.heap.size)] 205)).setCell ⟨pb, 1, none⟩ (ptr (w.heap.size + 1)))) := Lib.hid ((((Chg.refl [pb] w).alloc (.map #[] 0)).alloc (.cells #[.int .i64 n, .map (some w.heap.size)] 205)).setCell (.inl (by simp)) (ptr (w.heap.size + 1)))
  have HZ4 := Lib.hid hC3.out.size
  have H_p_5 : Hid ((((w.alloc (.map #[] 0)).alloc (.cells #[.int .i64 n, .map (some w.heap.size)] 205)).setCell ⟨pb, 1, none⟩ (ptr (w.heap.size + 1))).heap[pb]? = some (.cells #[ptr lb, ptr (w.heap.size + 1), .slice none 0 0, .int .i64 0] 175)) := Lib.hid (setAt (heapOld (heapOld HP.out (.map #[] 0)) (.cells #[.int .i64 n, .map (some w.heap.size)] 205)) 1 (ptr (w.heap.size + 1)))
  have H_m_6 : Hid ((((w.alloc (.map #[] 0)).alloc (.cells #[.int .i64 n, .map (some w.heap.size)] 205)).setCell ⟨pb, 1, none⟩ (ptr (w.heap.size + 1))).heap[w.heap.size]? = some (.map #[] 0)) := Lib.hid ((setOff 1 (ptr (w.heap.size + 1)) (by have := HL2.out; omega)).trans (heapOld (heapNew (by simp [World.setCell]) (.map #[] 0)) (.cells #[.int .i64 n, .map (some w.heap.size)] 205)))
  have H_t_7 : Hid ((((w.alloc (.map #[] 0)).alloc (.cells #[.int .i64 n, .map (some w.heap.size)] 205)).setCell ⟨pb, 1, none⟩ (ptr (w.heap.size + 1))).heap[w.heap.size + 1]? = some (.cells #[.int .i64 n, .map (some w.heap.size)] 205)) := Lib.hid ((setOff 1 (ptr (w.heap.size + 1)) (by have := HL2.out; omega)).trans (heapNew (by simp [World.setCell]) (.cells #[.int .i64 n, .map (some w.heap.size)] 205)))
  have HE8 := Lib.hid (HE1.out.after hC3.out (by intro k hk; have := HL2.out; have := HZ4.out; simp only [List.mem_cons, List.mem_singleton, List.not_mem_nil, or_false] at hk ⊢; omega))
  generalize (((w.alloc (.map #[] 0)).alloc (.cells #[.int .i64 n, .map (some w.heap.size)] 205)).setCell ⟨pb, 1, none⟩ (ptr (w.heap.size + 1))) = W9 at *
  go_ret
  refine ⟨w.heap.size + 1, w.heap.size, rfl, ⟨H_p_5.out, H_t_7.out, ⟨#[], 0, H_m_6.out, IsIMap.empty _⟩, h0, h9, ⟨n, mk, HLG.out.kept (fun k hk => hC3.out.block k (HLG.out.own k hk) (by simp only [List.mem_singleton]; rintro rfl; exact HOFF.out hk))⟩, HOFF.out, fun hm => ?_, fun hm => ?_⟩, HE8.out, Nat.le_succ _, Nat.le_refl _⟩
  · have := HLG.out.own _ hm; omega
  · have := HLG.out.own _ hm; omega

end Go.Proofs.YtobmnnihmbdfjaaGreat
