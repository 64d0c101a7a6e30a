/- space.write and space.Alloc (a page more) in a transaction. -/
import Derived.Test.YtobmnnihmbdfjaaGreatSReady
set_option linter.all false
namespace Go.Proofs.YtobmnnihmbdfjaaGreat
open Go.RowKit

/-- A number of 64 bits that the header bears. -/
def U64 (n : Int) : Prop := 0 ≤ n / 4294967296 ∧ n / 4294967296 < 4294967296

set_option maxRecDepth 100000 in
set_option maxHeartbeats 1000000 in
theorem swrite_ok {w pb tb mb lb L sv op base tx} (h : PgIn w pb tb mb lb L sv op base tx) (hp : 1 ≤ tx.pages) (hd : Hdr) (hm : mayB hd = true) (hu : U64 hd.commits) :
    Calls Tryz.prog 121 #[ptr pb, hdrV hd] w fun e w' => e = .returned (.int .i64 0) ∧ PgIn w' pb tb mb lb L sv op base (tx.put 1 (putH hd)) ∧ Chg [mb] w w' := by
  have H := Lib.hid h
  have PT := Lib.hid (put_ok hd hm hu.1 hu.2)
  have hp' := Lib.hid hp
  have LN := Lib.hid (putH_length hd)
  generalize putH hd = q at *
  clear h hm hu hp
  obtain ⟨fr, co, cm, r0, r1, r2, r3, r4, r5, r6, r7⟩ := hd
  go_enter Tryz.func121, Tryz.ntmps121
  go_wp2_with (go_at_call 180; refine (PT.out _).mono ?_; rintro e w1 ⟨rfl, hb1⟩)
  have HB := Lib.hid (((Below.refl w.heap.size w).alloc (Nat.le_refl _) _).trans (hb1.mono (by simp)))
  clear hb1
  refine (write_in (H.out.below HB.out) 1 (by omega) hp'.out ⟨q.toArray⟩ LN.out).mono ?_
  rintro e w2 ⟨rfl, hP, hC⟩
  have HP := Lib.hid hP
  have HC := Lib.hid hC
  clear hP hC
  go_wp2
  go_ret
  exact ⟨rfl, HP.out, (Chg.of_below HB.out [mb]).trans HC.out⟩

set_option maxRecDepth 100000 in
set_option maxHeartbeats 1000000 in
theorem alloc_grow {w pb tb mb lb L sv op base tx} (h : PgIn w pb tb mb lb L sv op base tx) (hp : 1 ≤ tx.pages) (hl : (tx.view base 1).length = 512) (hd : Hdr) (ht : takeH (tx.view base 1) = some hd) (hf : hd.free = 0) (hr : tx.pages < 256) :
    Calls Tryz.prog 53 #[ptr pb] w fun e w' => e = .returned (.tuple #[.int .i64 (tx.pages + 1), .int .i64 0]) ∧ PgIn w' pb tb mb lb L sv op base (tx.resize (tx.pages + 1)) ∧ Chg [tb, mb] w w' := by
  have H := Lib.hid h
  have SR := Lib.hid (fun W (hb : Below w.heap.size w W) => sready_ok (h.below hb) hp hl hd ht)
  have hlo := h.lo
  have hhi := h.hi
  have g2 : ¬ 256 < tx.pages + 1 := by omega
  obtain ⟨fr, co, cm, r0, r1, r2, r3, r4, r5, r6, r7⟩ := hd
  simp only at hf
  subst hf
  clear h ht hl
  go_enter Tryz.func53, Tryz.ntmps53
  go_wp2_with (go_at_call 122; refine (SR.out _ (Below.refl _ _)).mono ?_; rintro e w1 ⟨rfl, hb1⟩)
  have HB := Lib.hid hb1
  clear hb1
  have HB2 := Lib.hid (HB.out.alloc HB.out.size (.cells #[.int .i64 0, .int .i64 co, .int .u64 cm, .int .i64 r0, .int .i64 r1, .int .i64 r2, .int .i64 r3, .int .i64 r4, .int .i64 r5, .int .i64 r6, .int .i64 r7] 110))
  go_wp2_with (first | (go_at_call 38; refine (pages_in (H.out.below HB2.out)).mono ?_; rintro e w2 ⟨rfl, rfl⟩) | (go_at_call 79; refine (resize_in (H.out.below HB2.out) (tx.pages + 1) (by omega) (by omega)).mono ?_; rintro e w3 ⟨rfl, hP, hC⟩))
  go_ret2
  exact ⟨rfl, hP, (Chg.of_below HB2.out _).trans hC⟩

set_option maxRecDepth 100000 in
set_option maxHeartbeats 1000000 in
theorem alloc_full {w pb tb mb lb L sv op base tx} (h : PgIn w pb tb mb lb L sv op base tx) (hl : (tx.view base 1).length = 512) (hd : Hdr) (ht : takeH (tx.view base 1) = some hd) (hf : hd.free = 0) (hr : tx.pages = 256) :
    Calls Tryz.prog 53 #[ptr pb] w fun e w' => e = .returned (.tuple #[.int .i64 0, .int .i64 8]) ∧ Below w.heap.size w w' := by
  have H := Lib.hid h
  have SR := Lib.hid (fun W (hb : Below w.heap.size w W) => sready_ok (h.below hb) (by omega) hl hd ht)
  have hlo := h.lo
  have hhi := h.hi
  have g2 : 256 < tx.pages + 1 := by omega
  obtain ⟨fr, co, cm, r0, r1, r2, r3, r4, r5, r6, r7⟩ := hd
  simp only at hf
  subst hf
  clear h ht hl hr
  go_enter Tryz.func53, Tryz.ntmps53
  go_wp2_with (go_at_call 122; refine (SR.out _ (Below.refl _ _)).mono ?_; rintro e w1 ⟨rfl, hb1⟩)
  have HB := Lib.hid hb1
  clear hb1
  have HB2 := Lib.hid (HB.out.alloc HB.out.size (.cells #[.int .i64 0, .int .i64 co, .int .u64 cm, .int .i64 r0, .int .i64 r1, .int .i64 r2, .int .i64 r3, .int .i64 r4, .int .i64 r5, .int .i64 r6, .int .i64 r7] 110))
  go_wp2_with (go_at_call 38; refine (pages_in (H.out.below HB2.out)).mono ?_; rintro e w2 ⟨rfl, rfl⟩)
  go_ret2
  exact ⟨rfl, HB2.out⟩

end Go.Proofs.YtobmnnihmbdfjaaGreat
