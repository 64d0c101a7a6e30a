/- Pages of trees: node.bytes, the other kinds. -/
import Derived.Test.YtobmnnihmbdfjaaGreatNode4
set_option linter.all false
namespace Go.Proofs.YtobmnnihmbdfjaaGreat
open Go.RowKit

set_option maxRecDepth 100000 in
set_option maxHeartbeats 8000000 in
theorem nbytes_other (kind first : Int) (k0 : 0 ≤ kind) (k9 : kind < 256) (k1 : (kind == 1) = false) (k2 : (kind != 1) = true) (f0 : 0 ≤ first) (f1 : first ≤ 256) (data : List UInt8) (hd : data.length ≤ 505) (l : List CellM) (a : Option Addr) (cap : Nat) (w : World) (hs : CellsAt w (.slice a l.length cap) l) (hn : l.length ≤ 100000)
    (hz : ∀ c ∈ l, c.key.length ≤ 100 ∧ c.loc.length ≤ 100 ∧ 0 ≤ c.size ∧ c.size ≤ 4000 ∧ 0 ≤ c.page ∧ c.page ≤ 256) :
    Calls Tryz.prog 184 #[nodeV ⟨kind, first, l, data⟩ (.slice a l.length cap)] w fun e w' => e = .returned (vs (bytesN ⟨kind, first, l, data⟩)) ∧ Below w.heap.size w w' := by
  have HS := Lib.hid hs
  have HZ := Lib.hid hz
  have HN := Lib.hid hn
  clear hs hz hn
  go_enter Tryz.func184, Tryz.ntmps184
  go_wp2_with fail
  have HX0 : Hid (((w.alloc (.cells #[.int .u8 kind, .int .i64 first, .slice a l.length cap, vs data] 150)).alloc (.cells #[.pointer none, .slice none 0 0] 222)).heap[w.heap.size]? = some (.cells #[.int .u8 kind, .int .i64 first, .slice a l.length cap, vs data] 150)) := heapOld (heap_alloc_new w _) _
  have HB0 : Hid (Below w.heap.size w ((w.alloc (.cells #[.int .u8 kind, .int .i64 first, .slice a l.length cap, vs data] 150)).alloc (.cells #[.pointer none, .slice none 0 0] 222))) := ((Below.refl _ _).alloc (Nat.le_refl _) _).alloc (by simp) _
  have HT0 : Hid (BAt (w.heap.size + 1) [] ((w.alloc (.cells #[.int .u8 kind, .int .i64 first, .slice a l.length cap, vs data] 150)).alloc (.cells #[.pointer none, .slice none 0 0] 222))) := by
    have := BAt.fresh (w.alloc (.cells #[.int .u8 kind, .int .i64 first, .slice a l.length cap, vs data] 150))
    rwa [show (w.alloc (.cells #[.int .u8 kind, .int .i64 first, .slice a l.length cap, vs data] 150)).heap.size = w.heap.size + 1 by simp] at this
  generalize ((w.alloc (.cells #[.int .u8 kind, .int .i64 first, .slice a l.length cap, vs data] 150)).alloc (.cells #[.pointer none, .slice none 0 0] 222)) = w0 at *
  have HK0 := Lib.hid (Kp.refl (w.heap.size + 1) w0)
  go_at_call 240; refine (wbyte _ _ _ _ HT0.out k0 k9 (by simp)).mono ?_
  rintro e w1 ⟨rfl, hbat, hbl, hk⟩
  have HK1 := Lib.hid (HK0.out.trans ⟨hbl, hk⟩)
  have HT1 := Lib.hid hbat
  clear hbat hbl hk
  obtain ⟨c0, c1, c2, c3⟩ := HK1.out.four HX0.out (by omega) (by decide)
  go_wp2_with fail
  go_at_call 241; refine (number2_any _ (by omega) (by have := HN.out; omega) _).mono ?_; rintro e w2 ⟨rfl, hb⟩
  have HK2 := Lib.hid (HK1.out.step hb HT1.out.lt)
  have HT2 := Lib.hid (HT1.out.below hb)
  clear hb
  go_wp2_with fail
  go_at_call 113; refine (wstring _ _ _ _ HT2.out (by simp [ByteArray.size, two]) (by simp)).mono ?_; rintro e w3 ⟨rfl, hbat, hbl, hk⟩
  have HK3 := Lib.hid (HK2.out.trans ⟨hbl, hk⟩)
  have HT3 := Lib.hid hbat
  clear hbat hbl hk
  obtain ⟨c0, c1, c2, c3⟩ := HK3.out.four HX0.out (by omega) (by decide)
  go_wp2_with fail
  go_at_call 241; refine (number4_any _ f0 (by omega) _).mono ?_; rintro e w4 ⟨rfl, hb⟩
  have HK4 := Lib.hid (HK3.out.step hb HT3.out.lt)
  have HT4 := Lib.hid (HT3.out.below hb)
  clear hb
  go_wp2_with fail
  go_at_call 113; refine (wstring _ _ _ _ HT4.out (by simp [ByteArray.size, four]) (by simp [two])).mono ?_; rintro e w5 ⟨rfl, hbat, hbl, hk⟩
  have HK5 := Lib.hid (HK4.out.trans ⟨hbl, hk⟩)
  have HT5 := Lib.hid hbat
  clear hbat hbl hk
  obtain ⟨c0, c1, c2, c3⟩ := HK5.out.four HX0.out (by omega) (by decide)
  go_wp2_with fail
  have HT := Lib.hid (show BAt (w.heap.size + 1) (headN ⟨kind, first, l, data⟩) w5 from by simpa [headN, show ¬ kind = 1 by simpa using k1] using HT5.out)
  have HK := HK5
  clear HT5 HT4 HK5 HK4 HT3 HT2 HT1 HT0 HK3 HK2 HK1 HK0
  clear c0 c1 c2 c3
  go_loopw [28] (fun i wr => ∃ j : Nat, i = .int .i64 j ∧ j ≤ l.length ∧ Kp (w.heap.size + 1) w0 wr ∧ BAt (w.heap.size + 1) (headN ⟨kind, first, l, data⟩ ++ (l.take j).flatMap (cellBytes kind)) wr)
    (fun i _ => l.length - (intOf i).toNat)
  case atStart => exact ⟨0, rfl, Nat.zero_le _, HK.out, by simpa using HT.out⟩
  case round =>
    obtain ⟨j, rfl, hj, hkp, hbt⟩ := hrel
    have HKR := Lib.hid hkp
    have HTR := Lib.hid hbt
    clear hkp hbt HK HT
    obtain ⟨c0, c1, c2, c3⟩ := HKR.out.four HX0.out (by omega) (by decide)
    have HJJ := Lib.hid hj
    by_cases hlt : j < l.length
    · have HLT := Lib.hid hlt
      obtain ⟨c, hc⟩ : ∃ c, l[j]? = some c := ⟨_, List.getElem?_eq_getElem hlt⟩
      rcases (HS.out.below (HB0.out.trans (HKR.out.1.mono (Nat.le_succ _)))) with ⟨hv, h0⟩ | ⟨b', off', cap', hv, hlb, hcs⟩
      · subst h0; simp at hlt
      simp only [Value.slice.injEq, true_and] at hv
      obtain ⟨rfl, rfl⟩ := hv
      obtain ⟨e0, e1, e2, e3⟩ := hcs j c hc
      have HCJ := Lib.hid hc
      clear hcs
      obtain ⟨y0, y1, y2, y3, y4, y5⟩ := HZ.out c (List.mem_of_getElem? HCJ.out)
      clear hc
      go_wp2_with fail
      have HY0 : Hid ((wr.alloc (.cells #[vs c.key, .int .i64 c.size, vs c.loc, .int .i64 c.page] 144)).heap[wr.heap.size]? = some (.cells #[vs c.key, .int .i64 c.size, vs c.loc, .int .i64 c.page] 144)) := heap_alloc_new wr _
      have HAL := Lib.hid ((Below.refl wr.heap.size wr).alloc (Nat.le_refl _) (.cells #[vs c.key, .int .i64 c.size, vs c.loc, .int .i64 c.page] 144))
      have HKA := Lib.hid (HKR.out.step HAL.out HTR.out.lt)
      have HT10 := Lib.hid (HTR.out.below HAL.out)
      have HNE : Hid (wr.heap.size ≠ w.heap.size + 1) := fun e => absurd HTR.out.lt (by omega)
      obtain ⟨acc, hacc⟩ : ∃ acc, acc = headN ⟨kind, first, l, data⟩ ++ (l.take j).flatMap (cellBytes kind) := ⟨_, rfl⟩
      have hal : acc.length ≤ 100000000 := by
        rw [hacc]
        have h1 := flat_len kind (l.take j) (fun c hc => HZ.out c (List.mem_of_mem_take hc))
        have h2 : (l.take j).length ≤ 100000 := by rw [List.length_take]; have := HN.out; omega
        have h3 : (headN ⟨kind, first, l, data⟩).length ≤ 7 := by simp only [headN]; split <;> simp [two, four]
        rw [List.length_append]; omega
      rw [← hacc] at HT10
      have HACC := Lib.hid hacc
      clear hacc HTR HKR HAL e0 e1 e2 e3
      have HJ10 := Lib.hid (Kp.refl (w.heap.size + 1) (wr.alloc (.cells #[vs c.key, .int .i64 c.size, vs c.loc, .int .i64 c.page] 144)))
      generalize (wr.alloc (.cells #[vs c.key, .int .i64 c.size, vs c.loc, .int .i64 c.page] 144)) = wa at *
      go_at_call 240; refine (wbyte _ _ _ _ HT10.out (by omega) (by omega) (by omega)).mono ?_; rintro e w11 ⟨rfl, hbat, hbl, hk⟩
      have HJ11 := Lib.hid (HJ10.out.trans ⟨hbl, hk⟩)
      have HT11 := Lib.hid hbat
      clear hbat hbl hk
      clear c0 c1 c2 c3
      obtain ⟨c0, c1, c2, c3⟩ := (HKA.out.trans HJ11.out).four HX0.out (by omega) (by decide)
      obtain ⟨z0, z1, z2, z3⟩ := HJ11.out.four HY0.out HNE.out (by decide)
      go_wp2_with fail
      go_at_call 113; refine (wstring _ _ _ _ HT11.out (by simp [ByteArray.size]; omega) (by simp [two, four]; omega)).mono ?_; rintro e w12 ⟨rfl, hbat, hbl, hk⟩
      have HJ12 := Lib.hid (HJ11.out.trans ⟨hbl, hk⟩)
      have HT12 := Lib.hid hbat
      clear hbat hbl hk
      clear c0 c1 c2 c3 z0 z1 z2 z3
      obtain ⟨c0, c1, c2, c3⟩ := (HKA.out.trans HJ12.out).four HX0.out (by omega) (by decide)
      obtain ⟨z0, z1, z2, z3⟩ := HJ12.out.four HY0.out HNE.out (by decide)
      by_cases hp : 0 < c.page
      · all_goals (
          have HJ14 := HJ12
          have HT14 := HT12
          go_wp2_with fail
          go_at_call 241; refine (number4_any c.page y4 (by omega) _).mono ?_; rintro e w15 ⟨rfl, hb⟩
          have HJ15 := Lib.hid (HJ14.out.step hb HT14.out.lt)
          have HT15 := Lib.hid (HT14.out.below hb)
          clear hb
          clear c0 c1 c2 c3 z0 z1 z2 z3
          go_wp2_with fail
          go_at_call 113; refine (wstring _ _ _ _ HT15.out (by simp [ByteArray.size, four]) (by simp [two, four]; omega)).mono ?_; rintro e w16 ⟨rfl, hbat, hbl, hk⟩
          have HJ16 := Lib.hid (HJ15.out.trans ⟨hbl, hk⟩)
          have HT16 := Lib.hid hbat
          clear hbat hbl hk
          obtain ⟨c0, c1, c2, c3⟩ := (HKA.out.trans HJ16.out).four HX0.out (by omega) (by decide)
          have hjb : j ≤ 100000 := by have := HLT.out; have := HN.out; omega
          go_wp2
          go_roundw
          case rel =>
            refine ⟨j + 1, by go_num, HLT.out, HKA.out.trans HJ16.out, ?_⟩
            have h1 := HT16.out
            have hc := HCJ.out
            have h2 : headN ⟨kind, first, l, data⟩ ++ (l.take (j + 1)).flatMap (cellBytes kind) = acc ++ cellBytes kind c := by
              rw [HACC.out, List.take_add_one, hc]; simp
            rw [h2]
            have h3 : (if 0 < c.page then four c.page else []) = four c.page := if_pos hp
            rw [cellBytes, h3]
            simpa [bytes_append, show ¬ kind = 1 by simpa using k1] using h1
          case measure => have h9 := HLT.out; simp only [intOf]; omega)
      · all_goals (
          have HJ14 := HJ12
          have HT14 := HT12
          have hjb : j ≤ 100000 := by have := HLT.out; have := HN.out; omega
          go_wp2
          go_roundw
          case rel =>
            refine ⟨j + 1, by go_num, HLT.out, HKA.out.trans HJ14.out, ?_⟩
            have h1 := HT14.out
            have hc := HCJ.out
            have h2 : headN ⟨kind, first, l, data⟩ ++ (l.take (j + 1)).flatMap (cellBytes kind) = acc ++ cellBytes kind c := by
              rw [HACC.out, List.take_add_one, hc]; simp
            rw [h2]
            have h3 : (if 0 < c.page then four c.page else []) = [] := if_neg (by omega)
            rw [cellBytes, h3]
            simpa [bytes_append, show ¬ kind = 1 by simpa using k1] using h1
          case measure => have h9 := HLT.out; simp only [intOf]; omega)
    · have hjl : j = l.length := by omega
      subst hjl
      clear hlt hj
      go_wp2_with fail
      go_at_call 113; refine (wstring _ _ _ _ HTR.out (by simp [ByteArray.size]; omega) ?_).mono ?_
      · have h1 := flat_len kind l HZ.out
        have h3 : (headN ⟨kind, first, l, data⟩).length ≤ 7 := by simp only [headN]; split <;> simp [two, four]
        have := HN.out
        rw [List.take_length, List.length_append]; omega
      rintro e w20 ⟨rfl, hbat, hbl, hk⟩
      have HK2 := Lib.hid (HKR.out.trans ⟨hbl, hk⟩)
      have HT2 := Lib.hid hbat
      clear hbat hbl hk c0 c1 c2 c3
      go_wp2_with fail
      go_at_call 115; refine (bstring _ _ _ HT2.out).mono ?_; rintro e w21 ⟨rfl, hb⟩
      have HK3 := Lib.hid (HK2.out.1.trans hb)
      clear hb
      go_wp2
      go_ret
      exact ⟨by simp [bytesN, vs], HB0.out.trans (HK3.out.mono (Nat.le_succ _))⟩

end Go.Proofs.YtobmnnihmbdfjaaGreat
