/- Pages of trees: what is left of a text (rest.text, rest.number). -/
import Derived.Test.YtobmnnihmbdfjaaGreatNode6
import Derived.Test.YtobmnnihmbdfjaaGreatTake
import Derived.Lib.ConvBytes
set_option linter.all false
namespace Go.Proofs.YtobmnnihmbdfjaaGreat
open Go.RowKit

/-- What is left, in its box. -/
abbrev restO (l : List UInt8) (ok : Bool) : Obj := .cells #[vs l, .bool ok] 285

theorem extract_take (l : List UInt8) (n : Nat) : ({ data := l.toArray } : ByteArray).extract 0 n = { data := (l.take n).toArray } := by
  apply ByteArray.ext
  simp [ByteArray.data_extract]
theorem extract_drop (l : List UInt8) (n m : Nat) (h : l.length ≤ m) : ({ data := l.toArray } : ByteArray).extract n m = { data := (l.drop n).toArray } := by
  apply ByteArray.ext
  simp [ByteArray.data_extract]
  rw [List.take_of_length_le]
  simp; omega

theorem restO_ok (l : List UInt8) (n : Nat) (ok : Bool) (b : Nat) (w : World) (hn : n ≤ l.length) (hl : l.length ≤ 100000) (hb : w.heap[b]? = some (restO l ok)) :
    Calls Tryz.prog 182 #[ptr b, .int .i64 n] w fun e w' => e = .returned (vs (l.take n)) ∧ w'.heap[b]? = some (restO (l.drop n) ok) ∧ Chg [b] w w' ∧ w'.heap.size = w.heap.size := by
  have c0 : w.cell? ⟨b, 0, none⟩ = some (vs l) := cellAt hb 0
  have f0 : w.frozen? ⟨b, 0, none⟩ = false := freeAt hb 0
  have HB := Lib.hid hb
  clear hb
  go_enter Tryz.func182, Tryz.ntmps182
  go_wp2_with fail
  go_ret
  have hs := setAt HB.out 0 (.string (({ data := l.toArray } : ByteArray).extract n l.length))
  refine ⟨by rw [extract_take]; rfl, ?_, (Chg.refl _ _).setCell (by simp) _, by simp [World.setCell]⟩
  rw [hs, extract_drop l n l.length (Nat.le_refl _)]; rfl

theorem restO_bad (l : List UInt8) (n : Int) (ok : Bool) (b : Nat) (w : World) (hn : l.length < n) (hb : w.heap[b]? = some (restO l ok)) :
    Calls Tryz.prog 182 #[ptr b, .int .i64 n] w fun e w' => e = .returned (vs []) ∧ w'.heap[b]? = some (restO l false) ∧ Chg [b] w w' ∧ w'.heap.size = w.heap.size := by
  have c0 : w.cell? ⟨b, 0, none⟩ = some (vs l) := cellAt hb 0
  have c1 : w.cell? ⟨b, 1, none⟩ = some (.bool ok) := cellAt hb 1
  have f1 : w.frozen? ⟨b, 1, none⟩ = false := freeAt hb 1
  have HB := Lib.hid hb
  clear hb
  go_enter Tryz.func182, Tryz.ntmps182
  go_wp2_with fail
  go_ret
  have hs := setAt HB.out 1 (.bool false)
  exact ⟨rfl, by rw [hs]; rfl, (Chg.refl _ _).setCell (by simp) _, by simp [World.setCell]⟩

/-- A number of some bytes, the greatest first. -/
def numOf (l : List UInt8) : Int := l.foldl (fun a b => a * 256 + b.toNat) 0
theorem numOf_snoc (l : List UInt8) (b : UInt8) : numOf (l ++ [b]) = numOf l * 256 + b.toNat := by simp [numOf]
theorem numFold_bd (l : List UInt8) : ∀ a : Int, 0 ≤ a → 0 ≤ l.foldl (fun a b => a * 256 + (b.toNat : Int)) a ∧ l.foldl (fun a b => a * 256 + (b.toNat : Int)) a < (a + 1) * 256 ^ l.length := by
  induction l with
  | nil => intro a h; simp; omega
  | cons b l ih =>
    intro a h
    have hb := b.toNat_lt
    have h1 := ih (a * 256 + b.toNat) (by omega)
    refine ⟨by simpa using h1.1, ?_⟩
    have h2 : (a * 256 + (b.toNat : Int) + 1) * 256 ^ l.length ≤ ((a + 1) * 256) * 256 ^ l.length := Int.mul_le_mul_of_nonneg_right (by omega) (Int.pow_nonneg (by decide))
    simp only [List.foldl_cons, List.length_cons, Int.pow_succ]
    have h3 : (a + 1) * (256 ^ l.length * 256) = ((a + 1) * 256) * 256 ^ l.length := by rw [Int.mul_comm (256 ^ l.length) 256, Int.mul_assoc]
    rw [h3]
    exact Int.lt_of_lt_of_le h1.2 h2
theorem numOf_bd (l : List UInt8) : 0 ≤ numOf l ∧ numOf l < 256 ^ l.length := by
  have := numFold_bd l 0 (by decide)
  simpa [numOf] using this

theorem wraps_i64 (n : Int) (h₀ : 0 ≤ n) (h₁ : n < 2 ^ 32) : IntKind.i64.wrap n = n := by
  unfold IntKind.wrap; simp [IntKind.bits, IntKind.signed]; omega
theorem join8 (a : Int) (b : UInt8) (h0 : 0 ≤ a) (h1 : a ≤ 16777215) : bits BinOp.or IntKind.i64 (a * 256) b.toNat = a * 256 + b.toNat := by
  have := b.toNat_lt
  exact bits_join .i64 32 (by decide) wraps_i64 8 _ _ (by omega) (by omega) (by omega) (by omega) (by omega) (by omega)

set_option maxRecDepth 100000 in
set_option maxHeartbeats 1000000 in
theorem restNum (s : List UInt8) (l2 : List UInt8) (ok ok2 : Bool) (n : Int) (b : Nat) (w : World) (hs : s.length ≤ 4)
    (ht : Calls Tryz.prog 182 #[ptr b, .int .i64 n] w fun e w' => e = .returned (vs s) ∧ w'.heap[b]? = some (restO l2 ok2) ∧ Chg [b] w w' ∧ w'.heap.size = w.heap.size) :
    Calls Tryz.prog 181 #[ptr b, .int .i64 n] w fun e w' => e = .returned (.int .i64 (numOf s)) ∧ w'.heap[b]? = some (restO l2 ok2) ∧ Chg [b] w w' := by
  have HT := Lib.hid ht
  clear ht
  go_enter Tryz.func181, Tryz.ntmps181
  go_wp2_with fail
  go_at_call 182; refine HT.out.mono ?_; rintro e w1 ⟨rfl, h1, h2, h3⟩
  have hconv : (convert 9 92 (vs s)).run Tryz.prog w1 = .ok (.slice (some ⟨w1.heap.size, 0, none⟩) s.length (grownCap w1 s.length 0 5)) (Lib.bytesWorld w1 5 ⟨s.toArray⟩) := by
    have := Lib.run_convert_string_bytes (P := Tryz.prog) w1 9 92 5 ⟨s.toArray⟩ Tryz.underlying9 Tryz.underlying92 Tryz.underlying5
    simpa [ByteArray.size] using this
  have HCV := hconv
  have hcell : ∀ j u, s[j]? = some u → (Lib.bytesWorld w1 5 ⟨s.toArray⟩).cell? ⟨w1.heap.size, j, none⟩ = some (.int .u8 u.toNat) := by
    intro j u hj
    have hlt : j < s.length := (List.getElem?_eq_some_iff.1 hj).1
    have := Lib.bytesWorld_cell w1 5 ⟨s.toArray⟩ j (by simpa [ByteArray.size] using hlt)
    rw [this]
    simp [List.getD, hj]
  have hbel : Below w1.heap.size w1 (Lib.bytesWorld w1 5 ⟨s.toArray⟩) := by
    exact ⟨rfl, rfl, rfl, by rw [Lib.bytesWorld_size]; omega, fun k hk => Lib.bytesWorld_at_old w1 5 _ k hk⟩
  have HC := Lib.hid hcell
  have H1 := Lib.hid h1
  have H2 := Lib.hid h2
  have HBL := Lib.hid hbel
  have HS := Lib.hid hs
  clear hcell h1 h2 h3 hbel hs
  go_wp2_with fail
  clear hconv HCV
  have hsz : (Lib.bytesWorld w1 5 ⟨s.toArray⟩).heap.size = (Lib.bytesWorld w1 5 ⟨s.toArray⟩).heap.size := rfl
  generalize (Lib.bytesWorld w1 5 ⟨s.toArray⟩) = w2 at *
  clear hsz
  go_loopw [5, 13] (fun a i wr => ∃ j : Nat, i = .int .i64 j ∧ j ≤ s.length ∧ a = .int .i64 (numOf (s.take j)) ∧ wr = w2)
    (fun _ i _ => s.length - (intOf i).toNat)
  case atStart => exact ⟨0, rfl, Nat.zero_le _, rfl, rfl⟩
  case round =>
    obtain ⟨j, rfl, hj, rfl, rfl⟩ := hrel
    by_cases hlt : j < s.length
    · have HLT := Lib.hid hlt
      obtain ⟨c, hc⟩ : ∃ c, s[j]? = some c := ⟨_, List.getElem?_eq_getElem hlt⟩
      have c0 := HC.out j c hc
      have HCC := Lib.hid hc
      clear hc
      have bd := numOf_bd (s.take j)
      have hl3 : (s.take j).length = 0 ∨ (s.take j).length = 1 ∨ (s.take j).length = 2 ∨ (s.take j).length = 3 := by
        rw [List.length_take]; have := HS.out; omega
      have hb1 : numOf (s.take j) ≤ 16777215 := by rcases hl3 with h | h | h | h <;> rw [h] at bd <;> omega
      have hb0 := bd.1
      clear bd hl3
      have hj4 : j ≤ 4 := by have := HS.out; omega
      have hcl := c.toNat_lt
      have HJB : Hid (bits BinOp.or IntKind.i64 (numOf (s.take j) * 256) c.toNat = numOf (s.take j) * 256 + c.toNat) := join8 _ _ hb0 hb1
      go_wp2
      have hc := HCC.out
      refine ⟨⟨j + 1, by go_num, HLT.out, ?_, trivial⟩, by have h9 := HLT.out; simp only [intOf]; omega⟩
      rw [HJB.out, List.take_add_one, hc]
      simp [numOf_snoc]
    · have hjl : j = s.length := by omega
      subst hjl
      clear hlt hj
      have hl4 := HS.out
      go_wp2
      go_ret
      refine ⟨by simp, Below.get HBL.out H1.out, H2.out.trans (Chg.of_below HBL.out _)⟩

theorem num_ok (l : List UInt8) (n : Nat) (ok : Bool) (b : Nat) (w : World) (hn : n ≤ l.length) (h4 : n ≤ 4) (hl : l.length ≤ 100000) (hb : w.heap[b]? = some (restO l ok)) :
    Calls Tryz.prog 181 #[ptr b, .int .i64 n] w fun e w' => e = .returned (.int .i64 (numOf (l.take n))) ∧ w'.heap[b]? = some (restO (l.drop n) ok) ∧ Chg [b] w w' :=
  restNum _ _ ok ok n b w (by rw [List.length_take]; omega) (restO_ok l n ok b w hn hl hb)
theorem num_bad (l : List UInt8) (n : Int) (ok : Bool) (b : Nat) (w : World) (hn : l.length < n) (hb : w.heap[b]? = some (restO l ok)) :
    Calls Tryz.prog 181 #[ptr b, .int .i64 n] w fun e w' => e = .returned (.int .i64 0) ∧ w'.heap[b]? = some (restO l false) ∧ Chg [b] w w' :=
  restNum [] l ok false n b w (by simp) (restO_bad l n ok b w hn hb)

end Go.Proofs.YtobmnnihmbdfjaaGreat
