/- Sums of bytes: sum.blocks, sum.Add, sum.Of; frame.Start. -/
import Derived.Test.YtobmnnihmbdfjaaGreatSum
import Derived.Test.YtobmnnihmbdfjaaGreatNode7
import Derived.Shelf.Abstract
set_option linter.all false
namespace Go.Proofs.YtobmnnihmbdfjaaGreat
open Go.RowKit

def stepP (p : Int × Int) (x y : Int) : Int × Int :=
  ((p.1 + (x + p.2)) % 4294967296, (p.2 + (y + (p.1 + (x + p.2)))) % 4294967296)
def sumF : Nat → Int × Int → List UInt8 → Int × Int
  | 0, p, _ => p
  | n + 1, p, s => if s = [] then p else sumF n (stepP p (wordA (s.take 8)) (wordB (s.take 8))) (s.drop 8)
def sumP (p : Int × Int) (s : List UInt8) : Int × Int := sumF s.length p s
abbrev pairO (p : Int × Int) : Obj := .cells #[.int .u32 p.1, .int .u32 p.2] 65

set_option maxRecDepth 100000 in
set_option maxHeartbeats 2000000 in
theorem add1 (p : Int × Int) (x y : Int) (b : Nat) (w : World) (hb : w.heap[b]? = some (pairO p)) :
    Calls Tryz.prog 254 #[.int .u32 x, .int .u32 y, ptr b] w fun e w' => e = .returned (.tuple #[]) ∧ w'.heap[b]? = some (pairO (stepP p x y)) ∧ Chg [b] w w' := by
  obtain ⟨a, c⟩ := p
  have c0 : w.cell? ⟨b, 0, none⟩ = some (.int .u32 a) := cellAt hb 0
  have c1 : w.cell? ⟨b, 1, none⟩ = some (.int .u32 c) := cellAt hb 1
  have f0 := freeAt hb 0
  have f1 := freeAt hb 1
  have HB := Lib.hid hb
  clear hb
  go_enter Tryz.func254, Tryz.ntmps254
  go_wp2
  go_end0
  have hs := setAt (setAt HB.out 0 (.int .u32 ((a + (x + c)) % 4294967296))) 1 (.int .u32 ((c + (y + (a + (x + c)))) % 4294967296))
  exact ⟨rfl, hs, ((Chg.refl _ _).setCell (by simp) _).setCell (by simp) _⟩

set_option maxRecDepth 100000 in
set_option maxHeartbeats 2000000 in
theorem blocks_any (s : List UInt8) (hs : s.length ≤ 100000) (p : Int × Int) (b : Nat) (w : World) (hb : w.heap[b]? = some (pairO p)) :
    Calls Tryz.prog 253 #[vs s, .func (.func 254) #[] #[ptr b]] w fun e w' => e = .returned (.tuple #[]) ∧ w'.heap[b]? = some (pairO (sumP p s)) ∧ Chg [b] w w' := by
  have HB := Lib.hid hb
  have HR : Hid (sumF s.length p s = sumP p s) := Lib.hid rfl
  generalize sumP p s = R at *
  clear hb
  have eg := enters_of Tryz.func254 (by kernel_rfl) rfl
  go_enter Tryz.func253, Tryz.ntmps253
  go_wp2_with fail
  go_loopw [0, 4] (fun t n wr => ∃ (l : List UInt8) (q : Int × Int) (fuel : Nat), t = vs l ∧ l.length ≤ fuel ∧ fuel ≤ s.length ∧ Hid (sumF fuel q l = R) ∧ Hid (wr.heap[b]? = some (pairO q)) ∧ Hid (Chg [b] w wr)) (fun t _ _ => match t with | .string x => x.size | _ => 0)
  case atStart => exact ⟨s, p, s.length, rfl, Nat.le_refl _, Nat.le_refl _, HR, HB, Lib.hid (Chg.refl _ _)⟩
  case round =>
    obtain ⟨l, q, fuel, rfl, hlf, hfs, HS, HQ, HC⟩ := hrel
    cases hl : l with
    | nil =>
      have HRQ : Hid (R = q) := Lib.hid (by rw [← HS.out, hl]; cases fuel <;> simp [sumF])
      subst hl
      go_wp2
      go_end0
      exact ⟨rfl, by rw [HRQ.out]; exact HQ.out, HC.out⟩
    | cons u r =>
      obtain ⟨f, rfl⟩ : ∃ f, fuel = f + 1 := ⟨fuel - 1, by rw [hl] at hlf; simp at hlf; omega⟩
      have h0 : (0 : Int) < (l.length : Int) := by rw [hl]; simp
      have hne : l ≠ [] := by rw [hl]; simp
      have HNX : Hid (sumF f (stepP q (wordA (l.take 8)) (wordB (l.take 8))) (l.drop 8) = R) := Lib.hid (by rw [← HS.out]; simp [sumF, hne])
      have HL := Lib.hid hl
      rw [← hl]
      clear hl hne
      obtain ⟨n, hn⟩ : ∃ n : Nat, (n : Int) = min 8 (l.length : Int) := ⟨min 8 l.length, by omega⟩
      have hn8 : n ≤ 8 := by omega
      have hnl : n ≤ l.length := by omega
      have htk : l.take n = l.take 8 := by
        rcases Nat.lt_or_ge l.length 8 with k | k
        · obtain rfl : n = l.length := by omega
          rw [List.take_length, List.take_of_length_le (by omega)]
        · obtain rfl : n = 8 := by omega
          rfl
      have hdp : l.drop n = l.drop 8 := by
        rcases Nat.lt_or_ge l.length 8 with k | k
        · obtain rfl : n = l.length := by omega
          rw [List.drop_length, List.drop_eq_nil_of_le (by omega)]
        · obtain rfl : n = 8 := by omega
          rfl
      have HN := Lib.hid hn
      have HTK := Lib.hid htk
      have HDP := Lib.hid hdp
      have hmin : min (8 : Int) (l.length : Int) = (n : Int) := hn.symm
      clear hn htk hdp
      have hsz : (l.take 8).length ≤ 8 := by rw [List.length_take]; omega
      have hex : ({ data := l.toArray } : ByteArray).extract 0 n = { data := (l.take 8).toArray } := by rw [extract_take, HTK.out]
      go_wp2_with fail
      go_at_call 273; refine (words_any (l.take 8) hsz wr).mono ?_; rintro e w1 ⟨rfl, hb1⟩
      have HB1 := Lib.hid hb1
      have HQ1 := Lib.hid (Below.get hb1 HQ.out)
      clear hb1
      go_wp2_with fail
      go_at_call 254; refine (add1 q _ _ b w1 HQ1.out).mono ?_; rintro e w2 ⟨rfl, hq2, hc2⟩
      have HQ2 := Lib.hid hq2
      have HC2 : Hid (Chg [b] w w2) := Lib.hid ((HC.out.trans (Chg.of_below HB1.out _)).trans hc2)
      clear hq2 hc2 hex
      have hex2 : ({ data := l.toArray } : ByteArray).extract n l.length = { data := (l.drop 8).toArray } := by rw [extract_drop l n l.length (Nat.le_refl _), HDP.out]
      go_wp2_with fail
      go_roundw
      case rel => exact ⟨l.drop 8, _, f, rfl, by rw [List.length_drop]; omega, by omega, HNX, HQ2, HC2⟩
      case measure => simp [ByteArray.size]; omega

theorem pairO_two (p : Int × Int) : (.cells #[.int .u32 p.1, .int .u32 p.2] 65 : Obj) = pairO p := rfl

set_option maxRecDepth 100000 in
set_option maxHeartbeats 2000000 in
theorem add_any (s : List UInt8) (hs : s.length ≤ 100000) (p : Int × Int) (w : World) :
    Calls Tryz.prog 214 #[.agg #[.int .u32 p.1, .int .u32 p.2], vs s] w fun e w' => e = .returned (.agg #[.int .u32 (sumP p s).1, .int .u32 (sumP p s).2]) ∧ Below w.heap.size w w' := by
  obtain ⟨a, c⟩ := p
  go_enter Tryz.func214, Tryz.ntmps214
  go_wp2_with fail
  have H0 : Hid (((w.alloc (.cells #[.int .u32 a, .int .u32 c] 65)).alloc (.cells #[.int .u32 0, .int .u32 0] 65)).heap[w.heap.size]? = some (pairO (a, c))) := Lib.hid (heapOld (heap_alloc_new w _) _)
  have H1 : Hid (((w.alloc (.cells #[.int .u32 a, .int .u32 c] 65)).alloc (.cells #[.int .u32 0, .int .u32 0] 65)).heap[w.heap.size + 1]? = some (pairO (0, 0))) := Lib.hid (heapNew (by simp) _)
  have HB : Hid (Below w.heap.size w ((w.alloc (.cells #[.int .u32 a, .int .u32 c] 65)).alloc (.cells #[.int .u32 0, .int .u32 0] 65))) := Lib.hid (((Below.refl _ _).alloc (Nat.le_refl _) _).alloc (by simp) _)
  generalize ((w.alloc (.cells #[.int .u32 a, .int .u32 c] 65)).alloc (.cells #[.int .u32 0, .int .u32 0] 65)) = w0 at *
  go_at_call 253; refine (blocks_any s hs (a, c) _ w0 H0.out).mono ?_; rintro e w1 ⟨rfl, h1, hc⟩
  have H2 := hc.get H1.out (by simp)
  have HX1 := Lib.hid h1
  have HX2 := Lib.hid H2
  have HB1 := Lib.hid (HB.out.trans (hc.to_below (B := w.heap.size) HB.out.size (by simp)))
  clear h1 H2 hc
  rcases hR : sumP (a, c) s with ⟨r1, r2⟩
  have HR := Lib.hid hR
  rw [hR] at HX1
  clear hR
  have c0 : w1.cell? ⟨w.heap.size, 0, none⟩ = some (.int .u32 r1) := cellAt HX1.out 0
  have c1 : w1.cell? ⟨w.heap.size, 1, none⟩ = some (.int .u32 r2) := cellAt HX1.out 1
  have d0 : w1.cell? ⟨w.heap.size + 1, 0, none⟩ = some (.int .u32 0) := cellAt HX2.out 0
  have d1 : w1.cell? ⟨w.heap.size + 1, 1, none⟩ = some (.int .u32 0) := cellAt HX2.out 1
  have f0 := freeAt HX2.out 0
  have f1 := freeAt HX2.out 1
  go_wp2_with fail
  have hW := setAt (setAt HX2.out 0 (.int .u32 r1)) 1 (.int .u32 r2)
  have hBW : Below w.heap.size w ((w1.setCell ⟨w.heap.size + 1, 0, none⟩ (.int .u32 r1)).setCell ⟨w.heap.size + 1, 1, none⟩ (.int .u32 r2)) := (HB1.out.setCell (by simp) _).setCell (by simp) _
  clear c0 c1 d0 d1 f0 f1
  generalize ((w1.setCell ⟨w.heap.size + 1, 0, none⟩ (.int .u32 r1)).setCell ⟨w.heap.size + 1, 1, none⟩ (.int .u32 r2)) = W at *
  have rr0 : W.cell? ⟨w.heap.size + 1, 0, none⟩ = some (.int .u32 r1) := cellAt hW 0
  have rr1 : W.cell? ⟨w.heap.size + 1, 1, none⟩ = some (.int .u32 r2) := cellAt hW 1
  exact bodyPost_ret (v := .agg #[.int .u32 r1, .int .u32 r2]) (by simp [results, Tryz.results214, go_sem, rr0, rr1]; try rfl) rfl ⟨by rw [HR.out], hBW⟩

set_option maxRecDepth 100000 in
set_option maxHeartbeats 2000000 in
theorem of_any (s : List UInt8) (hs : s.length ≤ 100000) (w : World) :
    Calls Tryz.prog 207 #[vs s] w fun e w' => e = .returned (.agg #[.int .u32 (sumP (0, 0) s).1, .int .u32 (sumP (0, 0) s).2]) ∧ Below w.heap.size w w' := by
  go_enter Tryz.func207, Tryz.ntmps207
  go_wp2_with fail
  have H1 : Hid ((w.alloc (.cells #[.int .u32 0, .int .u32 0] 65)).heap[w.heap.size]? = some (pairO (0, 0))) := Lib.hid (heap_alloc_new w _)
  have HB : Hid (Below w.heap.size w (w.alloc (.cells #[.int .u32 0, .int .u32 0] 65))) := Lib.hid ((Below.refl _ _).alloc (Nat.le_refl _) _)
  generalize (w.alloc (.cells #[.int .u32 0, .int .u32 0] 65)) = w0 at *
  go_at_call 214; refine (add_any s hs (0, 0) w0).mono ?_; rintro e w1 ⟨rfl, hb⟩
  have HX2 := Lib.hid (Below.get hb H1.out)
  have HB1 := Lib.hid (HB.out.trans (hb.mono HB.out.size))
  clear hb
  rcases hR : sumP (0, 0) s with ⟨r1, r2⟩
  have HR := Lib.hid hR
  clear hR
  have d0 : w1.cell? ⟨w.heap.size, 0, none⟩ = some (.int .u32 0) := cellAt HX2.out 0
  have d1 : w1.cell? ⟨w.heap.size, 1, none⟩ = some (.int .u32 0) := cellAt HX2.out 1
  have f0 := freeAt HX2.out 0
  have f1 := freeAt HX2.out 1
  go_wp2_with fail
  have hW := setAt (setAt HX2.out 0 (.int .u32 r1)) 1 (.int .u32 r2)
  have hBW : Below w.heap.size w ((w1.setCell ⟨w.heap.size, 0, none⟩ (.int .u32 r1)).setCell ⟨w.heap.size, 1, none⟩ (.int .u32 r2)) := (HB1.out.setCell (by simp) _).setCell (by simp) _
  clear d0 d1 f0 f1
  generalize ((w1.setCell ⟨w.heap.size, 0, none⟩ (.int .u32 r1)).setCell ⟨w.heap.size, 1, none⟩ (.int .u32 r2)) = W at *
  have rr0 : W.cell? ⟨w.heap.size, 0, none⟩ = some (.int .u32 r1) := cellAt hW 0
  have rr1 : W.cell? ⟨w.heap.size, 1, none⟩ = some (.int .u32 r2) := cellAt hW 1
  exact bodyPost_ret (v := .agg #[.int .u32 r1, .int .u32 r2]) (by simp [results, Tryz.results207, go_sem, rr0, rr1]; try rfl) rfl ⟨by rw [HR.out], hBW⟩

def logWord : List UInt8 := [99, 111, 117, 110, 116, 101, 114, 102]
def startP (n : Int) : Int × Int := sumP (0, 0) (logWord ++ eight n)
set_option maxRecDepth 100000 in
set_option maxHeartbeats 2000000 in
theorem start_any (n : Int) (h0 : 0 ≤ n / 4294967296) (h1 : n / 4294967296 < 4294967296) (w : World) :
    Calls Tryz.prog 156 #[.int .u64 n] w fun e w' => e = .returned (.agg #[.int .u32 (startP n).1, .int .u32 (startP n).2]) ∧ Below w.heap.size w w' := by
  have H0 := Lib.hid h0
  have H9 := Lib.hid h1
  clear h0 h1
  go_enter Tryz.func156, Tryz.ntmps156
  go_wp2_with fail
  have H1 : Hid ((w.alloc (.cells #[.int .u32 0, .int .u32 0] 65)).heap[w.heap.size]? = some (pairO (0, 0))) := Lib.hid (heap_alloc_new w _)
  have HB : Hid (Below w.heap.size w (w.alloc (.cells #[.int .u32 0, .int .u32 0] 65))) := Lib.hid ((Below.refl _ _).alloc (Nat.le_refl _) _)
  generalize (w.alloc (.cells #[.int .u32 0, .int .u32 0] 65)) = w0 at *
  go_at_call 208; refine (eight_any n w0 H0.out H9.out).mono ?_; rintro e w1 ⟨rfl, hb⟩
  have HX1 := Lib.hid (Below.get hb H1.out)
  have HB1 := Lib.hid (HB.out.trans (hb.mono HB.out.size))
  clear hb
  have hcat : ({ data := #[99, 111, 117, 110, 116, 101, 114, 102] } : ByteArray) ++ { data := (eight n).toArray } = { data := (logWord ++ eight n).toArray } := bytes_append logWord (eight n)
  have hl8 := eight_length n
  go_wp2_with fail
  clear hcat hl8
  go_at_call 207; refine (of_any (logWord ++ eight n) (by simp [logWord, eight_length]) w1).mono ?_; rintro e w2 ⟨rfl, hb⟩
  have HX2 := Lib.hid (Below.get hb HX1.out)
  have HB2 := Lib.hid (HB1.out.trans (hb.mono HB1.out.size))
  clear hb
  rcases hR : sumP (0, 0) (logWord ++ eight n) with ⟨r1, r2⟩
  have HR : Hid (startP n = (r1, r2)) := Lib.hid hR
  clear hR
  have d0 : w2.cell? ⟨w.heap.size, 0, none⟩ = some (.int .u32 0) := cellAt HX2.out 0
  have d1 : w2.cell? ⟨w.heap.size, 1, none⟩ = some (.int .u32 0) := cellAt HX2.out 1
  have f0 := freeAt HX2.out 0
  have f1 := freeAt HX2.out 1
  go_wp2_with fail
  have hW := setAt (setAt HX2.out 0 (.int .u32 r1)) 1 (.int .u32 r2)
  have hBW : Below w.heap.size w ((w2.setCell ⟨w.heap.size, 0, none⟩ (.int .u32 r1)).setCell ⟨w.heap.size, 1, none⟩ (.int .u32 r2)) := (HB2.out.setCell (by simp) _).setCell (by simp) _
  clear d0 d1 f0 f1
  generalize ((w2.setCell ⟨w.heap.size, 0, none⟩ (.int .u32 r1)).setCell ⟨w.heap.size, 1, none⟩ (.int .u32 r2)) = W at *
  have rr0 : W.cell? ⟨w.heap.size, 0, none⟩ = some (.int .u32 r1) := cellAt hW 0
  have rr1 : W.cell? ⟨w.heap.size, 1, none⟩ = some (.int .u32 r2) := cellAt hW 1
  exact bodyPost_ret (v := .agg #[.int .u32 r1, .int .u32 r2]) (by simp [results, Tryz.results156, go_sem, rr0, rr1]; try rfl) rfl ⟨by rw [HR.out], hBW⟩

end Go.Proofs.YtobmnnihmbdfjaaGreat
