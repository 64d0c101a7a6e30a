/- Pages of trees: node.bytes. -/
import Derived.Test.YtobmnnihmbdfjaaGreatNode3
set_option linter.all false
namespace Go.Proofs.YtobmnnihmbdfjaaGreat
open Go.RowKit

def cellBytes (kind : Int) (c : CellM) : List UInt8 :=
  [byteOf c.key.length] ++ c.key ++ (if kind = 1 then two c.size ++ c.loc else []) ++ (if 0 < c.page then four c.page else [])
def headN (x : NodeM) : List UInt8 := [byteOf x.kind] ++ two (max x.cells.length x.data.length) ++ (if x.kind = 1 then [] else four x.first)
def bytesN (x : NodeM) : List UInt8 := headN x ++ x.cells.flatMap (cellBytes x.kind) ++ x.data

/-- The builder has grown; what is older than it, and every box that is no row of bytes, stands. -/
def Kp (b : Nat) (w w' : World) : Prop := Below b w w' ∧ Lib.OthersKept 5 (some b) w w'
theorem Kp.refl (b : Nat) (w : World) : Kp b w w := ⟨Below.refl _ _, Lib.OthersKept.refl _ _ _⟩
theorem Kp.trans {b : Nat} {u v w : World} (h : Kp b u v) (k : Kp b v w) : Kp b u w := ⟨h.1.trans k.1, h.2.trans k.2⟩
theorem Kp.below {b : Nat} {w w' : World} (h : Below w.heap.size w w') (hb : b ≤ w.heap.size) : Kp b w w' := by
  refine ⟨h.mono hb, fun k o hk _ _ => Below.get h hk⟩
theorem Kp.cell {b : Nat} {w w' : World} (h : Kp b w w') {p : Addr} {v : Value} (hp : p.block < b) (hv : w.cell? p = some v) : w'.cell? p = some v := (h.1.cell (p := p) hp).trans hv
theorem Kp.box {b : Nat} {w w' : World} (h : Kp b w w') {k : Nat} {cs : Array Value} {fr : Nat × Nat} {t : TypeId} (hv : w.heap[k]? = some (.cells cs t fr)) (hk : k ≠ b) (ht : t ≠ 5) : w'.heap[k]? = some (.cells cs t fr) := by
  refine h.2 k _ hv (by simpa using hk) ?_
  intro c fz hc
  simp only [Obj.cells.injEq] at hc
  exact ht hc.2.1
theorem Kp.four {b : Nat} {w w' : World} (h : Kp b w w') {k : Nat} {A B C D : Value} {t : TypeId} (hv : w.heap[k]? = some (.cells #[A, B, C, D] t)) (hk : k ≠ b) (ht : t ≠ 5) :
    w'.cell? ⟨k, 0, none⟩ = some A ∧ w'.cell? ⟨k, 1, none⟩ = some B ∧ w'.cell? ⟨k, 2, none⟩ = some C ∧ w'.cell? ⟨k, 3, none⟩ = some D := by
  have := h.box hv hk ht
  exact ⟨cellAt this 0, cellAt this 1, cellAt this 2, cellAt this 3⟩
theorem Kp.step {b : Nat} {u v w : World} (h : Kp b u v) (hw : Below v.heap.size v w) (hb : b < v.heap.size) : Kp b u w := h.trans (Kp.below hw (Nat.le_of_lt hb))
theorem Kp.drew {b : Nat} {u v : World} (h : Kp b u v) : Kp b u v.drew := ⟨h.1.drew, h.2.drew⟩

theorem flat_len (k : Int) : ∀ l : List CellM, (∀ c ∈ l, c.key.length ≤ 100 ∧ c.loc.length ≤ 100 ∧ 0 ≤ c.size ∧ c.size ≤ 4000 ∧ 0 ≤ c.page ∧ c.page ≤ 256) → (l.flatMap (cellBytes k)).length ≤ 300 * l.length
  | [], _ => by simp
  | c :: l, h => by
    have h1 := h c (by simp)
    have h2 := flat_len k l (fun d hd => h d (by simp [hd]))
    have h3 : (cellBytes k c).length ≤ 300 := by
      simp only [cellBytes]
      split <;> split <;> simp [two, four] <;> omega
    simp only [List.flatMap_cons, List.length_append, List.length_cons]
    omega

set_option maxRecDepth 100000 in
set_option maxHeartbeats 8000000 in
theorem nbytes_leaf (l : List CellM) (a : Option Addr) (cap : Nat) (w : World) (hs : CellsAt w (.slice a l.length cap) l) (hn : l.length ≤ 100000)
    (hz : ∀ c ∈ l, c.key.length ≤ 100 ∧ c.loc.length ≤ 100 ∧ 0 ≤ c.size ∧ c.size ≤ 4000 ∧ 0 ≤ c.page ∧ c.page ≤ 256) :
    Calls Tryz.prog 184 #[nodeV ⟨1, 0, l, []⟩ (.slice a l.length cap)] w fun e w' => e = .returned (vs (bytesN ⟨1, 0, l, []⟩)) ∧ Below w.heap.size w w' := by
  have HS := Lib.hid hs
  have HZ := Lib.hid hz
  have HN := Lib.hid hn
  clear hs hz hn
  go_enter Tryz.func184, Tryz.ntmps184
  go_wp2_with fail
  have HX0 : Hid (((w.alloc (.cells #[.int .u8 1, .int .i64 0, .slice a l.length cap, vs []] 150)).alloc (.cells #[.pointer none, .slice none 0 0] 222)).heap[w.heap.size]? = some (.cells #[.int .u8 1, .int .i64 0, .slice a l.length cap, vs []] 150)) := heapOld (heap_alloc_new w _) _
  have HB0 : Hid (Below w.heap.size w ((w.alloc (.cells #[.int .u8 1, .int .i64 0, .slice a l.length cap, vs []] 150)).alloc (.cells #[.pointer none, .slice none 0 0] 222))) := ((Below.refl _ _).alloc (Nat.le_refl _) _).alloc (by simp) _
  have HT0 : Hid (BAt (w.heap.size + 1) [] ((w.alloc (.cells #[.int .u8 1, .int .i64 0, .slice a l.length cap, vs []] 150)).alloc (.cells #[.pointer none, .slice none 0 0] 222))) := by
    have := BAt.fresh (w.alloc (.cells #[.int .u8 1, .int .i64 0, .slice a l.length cap, vs []] 150))
    rwa [show (w.alloc (.cells #[.int .u8 1, .int .i64 0, .slice a l.length cap, vs []] 150)).heap.size = w.heap.size + 1 by simp] at this
  generalize ((w.alloc (.cells #[.int .u8 1, .int .i64 0, .slice a l.length cap, vs []] 150)).alloc (.cells #[.pointer none, .slice none 0 0] 222)) = w0 at *
  have HK0 := Lib.hid (Kp.refl (w.heap.size + 1) w0)
  go_at_call 240; refine (wbyte _ _ _ _ HT0.out (by decide) (by decide) (by simp)).mono ?_
  rintro e w1 ⟨rfl, hbat, hbl, hk⟩
  have HK1 := Lib.hid (HK0.out.trans ⟨hbl, hk⟩)
  have HT1 := Lib.hid hbat
  clear hbat hbl hk
  obtain ⟨c0, c1, c2, c3⟩ := HK1.out.four HX0.out (by omega) (by decide)
  go_wp2_with fail
  go_at_call 241; refine (number2_any _ (by omega) (by have := HN.out; omega) _).mono ?_; rintro e w2 ⟨rfl, hb⟩
  have HK2 := Lib.hid (HK1.out.step hb HT1.out.lt)
  have HT2 := Lib.hid (HT1.out.below hb)
  clear hb
  go_wp2_with fail
  go_at_call 113; refine (wstring _ _ _ _ HT2.out (by simp [ByteArray.size, two]) (by simp)).mono ?_; rintro e w3 ⟨rfl, hbat, hbl, hk⟩
  have HK3 := Lib.hid (HK2.out.trans ⟨hbl, hk⟩)
  have HT3 := Lib.hid hbat
  clear hbat hbl hk
  obtain ⟨c0, c1, c2, c3⟩ := HK3.out.four HX0.out (by omega) (by decide)
  go_wp2_with fail
  have HT := Lib.hid (show BAt (w.heap.size + 1) (headN ⟨1, 0, l, []⟩) w3 from by simpa [headN] using HT3.out)
  have HK := HK3
  clear HT3 HT2 HT1 HT0 HK3 HK2 HK1 HK0
  clear c0 c1 c2 c3
  go_loopw [28] (fun i wr => ∃ j : Nat, i = .int .i64 j ∧ j ≤ l.length ∧ Kp (w.heap.size + 1) w0 wr ∧ BAt (w.heap.size + 1) (headN ⟨1, 0, l, []⟩ ++ (l.take j).flatMap (cellBytes 1)) wr)
    (fun i _ => l.length - (intOf i).toNat)
  case atStart => exact ⟨0, rfl, Nat.zero_le _, HK.out, by simpa using HT.out⟩
  case round =>
    obtain ⟨j, rfl, hj, hkp, hbt⟩ := hrel
    have HKR := Lib.hid hkp
    have HTR := Lib.hid hbt
    clear hkp hbt HK HT
    obtain ⟨c0, c1, c2, c3⟩ := HKR.out.four HX0.out (by omega) (by decide)
    have HJJ := Lib.hid hj
    by_cases hlt : j < l.length
    · have HLT := Lib.hid hlt
      obtain ⟨c, hc⟩ : ∃ c, l[j]? = some c := ⟨_, List.getElem?_eq_getElem hlt⟩
      rcases (HS.out.below (HB0.out.trans (HKR.out.1.mono (Nat.le_succ _)))) with ⟨hv, h0⟩ | ⟨b', off', cap', hv, hlb, hcs⟩
      · subst h0; simp at hlt
      simp only [Value.slice.injEq, true_and] at hv
      obtain ⟨rfl, rfl⟩ := hv
      obtain ⟨e0, e1, e2, e3⟩ := hcs j c hc
      have HCJ := Lib.hid hc
      clear hcs
      obtain ⟨y0, y1, y2, y3, y4, y5⟩ := HZ.out c (List.mem_of_getElem? HCJ.out)
      clear hc
      go_wp2_with fail
      have HY0 : Hid ((wr.alloc (.cells #[vs c.key, .int .i64 c.size, vs c.loc, .int .i64 c.page] 144)).heap[wr.heap.size]? = some (.cells #[vs c.key, .int .i64 c.size, vs c.loc, .int .i64 c.page] 144)) := heap_alloc_new wr _
      have HAL := Lib.hid ((Below.refl wr.heap.size wr).alloc (Nat.le_refl _) (.cells #[vs c.key, .int .i64 c.size, vs c.loc, .int .i64 c.page] 144))
      have HKA := Lib.hid (HKR.out.step HAL.out HTR.out.lt)
      have HT10 := Lib.hid (HTR.out.below HAL.out)
      have HNE : Hid (wr.heap.size ≠ w.heap.size + 1) := fun e => absurd HTR.out.lt (by omega)
      obtain ⟨acc, hacc⟩ : ∃ acc, acc = headN ⟨1, 0, l, []⟩ ++ (l.take j).flatMap (cellBytes 1) := ⟨_, rfl⟩
      have hal : acc.length ≤ 100000000 := by
        rw [hacc]
        have h1 := flat_len 1 (l.take j) (fun c hc => HZ.out c (List.mem_of_mem_take hc))
        have h2 : (l.take j).length ≤ 100000 := by rw [List.length_take]; have := HN.out; omega
        have h3 : (headN ⟨1, 0, l, []⟩).length ≤ 7 := by simp only [headN]; split <;> simp [two, four]
        rw [List.length_append]; omega
      rw [← hacc] at HT10
      have HACC := Lib.hid hacc
      clear hacc HTR HKR HAL e0 e1 e2 e3
      have HJ10 := Lib.hid (Kp.refl (w.heap.size + 1) (wr.alloc (.cells #[vs c.key, .int .i64 c.size, vs c.loc, .int .i64 c.page] 144)))
      generalize (wr.alloc (.cells #[vs c.key, .int .i64 c.size, vs c.loc, .int .i64 c.page] 144)) = wa at *
      go_at_call 240; refine (wbyte _ _ _ _ HT10.out (by omega) (by omega) (by omega)).mono ?_; rintro e w11 ⟨rfl, hbat, hbl, hk⟩
      have HJ11 := Lib.hid (HJ10.out.trans ⟨hbl, hk⟩)
      have HT11 := Lib.hid hbat
      clear hbat hbl hk
      clear c0 c1 c2 c3
      obtain ⟨c0, c1, c2, c3⟩ := (HKA.out.trans HJ11.out).four HX0.out (by omega) (by decide)
      obtain ⟨z0, z1, z2, z3⟩ := HJ11.out.four HY0.out HNE.out (by decide)
      go_wp2_with fail
      go_at_call 113; refine (wstring _ _ _ _ HT11.out (by simp [ByteArray.size]; omega) (by simp [two, four]; omega)).mono ?_; rintro e w12 ⟨rfl, hbat, hbl, hk⟩
      have HJ12 := Lib.hid (HJ11.out.trans ⟨hbl, hk⟩)
      have HT12 := Lib.hid hbat
      clear hbat hbl hk
      clear c0 c1 c2 c3 z0 z1 z2 z3
      obtain ⟨c0, c1, c2, c3⟩ := (HKA.out.trans HJ12.out).four HX0.out (by omega) (by decide)
      obtain ⟨z0, z1, z2, z3⟩ := HJ12.out.four HY0.out HNE.out (by decide)
      go_wp2_with fail
      by_cases hp : 0 < c.page
      · have t2 := two_length c.size
        have t3 : (vs (two c.size)) = .string ⟨(two c.size).toArray⟩ := rfl
        go_region_with (first | (go_at_call 241; refine (number2_any c.size y2 (by omega) _).mono ?_; rintro e w13 ⟨rfl, hb⟩; have z2' : w13.cell? ⟨wr.heap.size, 2, none⟩ = some (vs c.loc) := cell_later hb z2; have HBN := Lib.hid hb; clear hb) | (go_at_call 113; refine (wstring _ _ _ _ ((show BAt _ _ w12.drew from HT12.out).below HBN.out) (by simp [two, ByteArray.size]; omega) (by simp [two, four]; omega)).mono ?_; rintro e w14 ⟨rfl, hbat, hbl, hk⟩; have HJ14 := Lib.hid ((HJ12.out.drew.step HBN.out HT12.out.lt).trans ⟨hbl, hk⟩); have HT14 := Lib.hid hbat; clear hbat hbl hk; clear c0 c1 c2 c3 z0 z1 z2 z3 z2'))
        all_goals (
          obtain ⟨c0, c1, c2, c3⟩ := (HKA.out.trans HJ14.out).four HX0.out (by omega) (by decide)
          obtain ⟨z0, z1, z2, z3⟩ := HJ14.out.four HY0.out HNE.out (by decide)
          go_wp2_with fail
          go_at_call 241; refine (number4_any c.page y4 (by omega) _).mono ?_; rintro e w15 ⟨rfl, hb⟩
          have HJ15 := Lib.hid (HJ14.out.step hb HT14.out.lt)
          have HT15 := Lib.hid (HT14.out.below hb)
          clear hb
          clear c0 c1 c2 c3 z0 z1 z2 z3
          go_wp2_with fail
          go_at_call 113; refine (wstring _ _ _ _ HT15.out (by simp [ByteArray.size, four]) (by simp [two, four]; omega)).mono ?_; rintro e w16 ⟨rfl, hbat, hbl, hk⟩
          have HJ16 := Lib.hid (HJ15.out.trans ⟨hbl, hk⟩)
          have HT16 := Lib.hid hbat
          clear hbat hbl hk
          obtain ⟨c0, c1, c2, c3⟩ := (HKA.out.trans HJ16.out).four HX0.out (by omega) (by decide)
          have hjb : j ≤ 100000 := by have := HLT.out; have := HN.out; omega
          go_wp2
          go_roundw
          case rel =>
            refine ⟨j + 1, by go_num, HLT.out, HKA.out.trans HJ16.out, ?_⟩
            have h1 := HT16.out
            have hc := HCJ.out
            have h2 : headN ⟨1, 0, l, []⟩ ++ (l.take (j + 1)).flatMap (cellBytes 1) = acc ++ cellBytes 1 c := by
              rw [HACC.out, List.take_add_one, hc]; simp
            rw [h2]
            have h3 : (if 0 < c.page then four c.page else []) = four c.page := if_pos hp
            rw [cellBytes, h3]
            simpa [bytes_append] using h1
          case measure => have h9 := HLT.out; simp only [intOf]; omega)
      · have t2 := two_length c.size
        have t3 : (vs (two c.size)) = .string ⟨(two c.size).toArray⟩ := rfl
        go_region_with (first | (go_at_call 241; refine (number2_any c.size y2 (by omega) _).mono ?_; rintro e w13 ⟨rfl, hb⟩; have z2' : w13.cell? ⟨wr.heap.size, 2, none⟩ = some (vs c.loc) := cell_later hb z2; have HBN := Lib.hid hb; clear hb) | (go_at_call 113; refine (wstring _ _ _ _ ((show BAt _ _ w12.drew from HT12.out).below HBN.out) (by simp [two, ByteArray.size]; omega) (by simp [two, four]; omega)).mono ?_; rintro e w14 ⟨rfl, hbat, hbl, hk⟩; have HJ14 := Lib.hid ((HJ12.out.drew.step HBN.out HT12.out.lt).trans ⟨hbl, hk⟩); have HT14 := Lib.hid hbat; clear hbat hbl hk; clear c0 c1 c2 c3 z0 z1 z2 z3 z2'))
        all_goals (
          obtain ⟨c0, c1, c2, c3⟩ := (HKA.out.trans HJ14.out).four HX0.out (by omega) (by decide)
          obtain ⟨z0, z1, z2, z3⟩ := HJ14.out.four HY0.out HNE.out (by decide)
          have hjb : j ≤ 100000 := by have := HLT.out; have := HN.out; omega
          go_wp2
          go_roundw
          case rel =>
            refine ⟨j + 1, by go_num, HLT.out, HKA.out.trans HJ14.out, ?_⟩
            have h1 := HT14.out
            have hc := HCJ.out
            have h2 : headN ⟨1, 0, l, []⟩ ++ (l.take (j + 1)).flatMap (cellBytes 1) = acc ++ cellBytes 1 c := by
              rw [HACC.out, List.take_add_one, hc]; simp
            rw [h2]
            have h3 : (if 0 < c.page then four c.page else []) = [] := if_neg (by omega)
            rw [cellBytes, h3]
            simpa [bytes_append] using h1
          case measure => have h9 := HLT.out; simp only [intOf]; omega)
    · have hjl : j = l.length := by omega
      subst hjl
      clear hlt hj
      go_wp2_with fail
      go_at_call 113; refine (wstring _ _ _ _ HTR.out (by simp [ByteArray.size]) ?_).mono ?_
      · have h1 := flat_len 1 l HZ.out
        have h3 : (headN ⟨1, 0, l, []⟩).length ≤ 7 := by simp only [headN]; split <;> simp [two, four]
        have := HN.out
        rw [List.take_length, List.length_append]; omega
      rintro e w20 ⟨rfl, hbat, hbl, hk⟩
      have HK2 := Lib.hid (HKR.out.trans ⟨hbl, hk⟩)
      have HT2 := Lib.hid hbat
      clear hbat hbl hk c0 c1 c2 c3
      go_wp2_with fail
      go_at_call 115; refine (bstring _ _ _ HT2.out).mono ?_; rintro e w21 ⟨rfl, hb⟩
      have HK3 := Lib.hid (HK2.out.1.trans hb)
      clear hb
      go_wp2
      go_ret
      exact ⟨by simp [bytesN, vs], HB0.out.trans (HK3.out.mono (Nat.le_succ _))⟩

end Go.Proofs.YtobmnnihmbdfjaaGreat
