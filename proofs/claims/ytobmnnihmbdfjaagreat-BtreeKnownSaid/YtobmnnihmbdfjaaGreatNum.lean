/- Numbers and sums as bytes: what packages number and sum compute. -/
import Derived.Test.YtobmnnihmbdfjaaGreatBase
set_option linter.all false
namespace Go.Proofs.YtobmnnihmbdfjaaGreat
open Go.RowKit

/-! ### Plain: numbers as bytes -/
/-- A text's value in the model. -/
abbrev vs (l : List UInt8) : Value := .string ⟨l.toArray⟩
def byteOf (n : Int) : UInt8 := UInt8.ofNat (n % 256).toNat
def four (n : Int) : List UInt8 := [byteOf (n / 16777216), byteOf (n / 65536), byteOf (n / 256), byteOf n]
def eight (n : Int) : List UInt8 := four (n / 4294967296) ++ four (n % 4294967296)
def takeFour (l : List UInt8) : Int := (((l.getD 0 0).toNat * 16777216 + (l.getD 1 0).toNat * 65536 + (l.getD 2 0).toNat * 256 + (l.getD 3 0).toNat : Nat) : Int)
def takeEight (l : List UInt8) : Int := takeFour l * 4294967296 + takeFour (l.drop 4)

theorem takeFour_bd (l : List UInt8) : 0 ≤ takeFour l ∧ takeFour l < 4294967296 := by
  unfold takeFour
  have := (l.getD 0 0).toNat_lt; have := (l.getD 1 0).toNat_lt; have := (l.getD 2 0).toNat_lt; have := (l.getD 3 0).toNat_lt
  omega

theorem takeFour_bits (a b c d : UInt8) :
    bits BinOp.or IntKind.u32 (bits BinOp.or IntKind.u32 (bits BinOp.or IntKind.u32 ((a.toNat : Int) % 4294967296 * 16777216 % 4294967296) ((b.toNat : Int) % 4294967296 * 65536 % 4294967296)) ((c.toNat : Int) % 4294967296 * 256 % 4294967296)) ((d.toNat : Int) % 4294967296)
      = ((a.toNat * 16777216 + b.toNat * 65536 + c.toNat * 256 + d.toNat : Nat) : Int) := by
  have ha := a.toNat_lt; have hb := b.toNat_lt; have hc := c.toNat_lt; have hd := d.toNat_lt
  have e1 : bits BinOp.or IntKind.u32 ((a.toNat : Int) % 4294967296 * 16777216 % 4294967296) ((b.toNat : Int) % 4294967296 * 65536 % 4294967296) = (a.toNat : Int) * 16777216 + b.toNat * 65536 := by
    rw [bits_join .u32 32 (by decide) wraps_u32 24 _ _ (by omega) (by omega) (by omega) (by omega) (by omega) (by omega)]; omega
  have e2 : bits BinOp.or IntKind.u32 ((a.toNat : Int) * 16777216 + b.toNat * 65536) ((c.toNat : Int) % 4294967296 * 256 % 4294967296) = (a.toNat : Int) * 16777216 + b.toNat * 65536 + c.toNat * 256 := by
    rw [bits_join .u32 32 (by decide) wraps_u32 16 _ _ (by omega) (by omega) (by omega) (by omega) (by omega) (by omega)]; omega
  rw [e1, e2, bits_join .u32 32 (by decide) wraps_u32 8 _ _ (by omega) (by omega) (by omega) (by omega) (by omega) (by omega)]
  omega

theorem toList_getD (s : ByteArray) (i : Nat) (h : i < s.size) : s.data.toList.getD i 0 = s[i] := by
  have h' : i < s.data.toList.length := by simpa using h
  rw [List.getD_eq_getElem?_getD, List.getElem?_eq_getElem h']
  rfl

theorem ret_pair {k k' : IntKind} {a b c d : Int} (h : a = c) (h' : b = d) : Ending.returned (.tuple #[.int k a, .int k' b]) = .returned (.tuple #[.int k c, .int k' d]) := by rw [h, h']

/-! ### Walks -/
theorem conv_four (w : World) (a b c d : Int) (C : TypeId) :
  (convert 92 9 (Value.slice (some { block := w.heap.size, off := 0 }) 4 4)).run Tryz.prog (w.alloc (Obj.cells #[.int .u8 a, .int .u8 b, .int .u8 c, .int .u8 d] C)) = .ok (.string (strOfNums [a,b,c,d])) (w.alloc (Obj.cells #[.int .u8 a, .int .u8 b, .int .u8 c, .int .u8 d] C)) := by
  refine run_convert_bytes_arg (P := Tryz.prog) (w.alloc _) 92 5 Tryz.underlying92 Tryz.underlying5 w.heap.size 0 4 4 [a,b,c,d] rfl ?_ 9 Tryz.underlying9
  intro i hi
  match i, hi with
  | 0, _ => simp
  | 1, _ => simp
  | 2, _ => simp
  | 3, _ => simp

set_option maxRecDepth 100000 in
set_option maxHeartbeats 400000 in
theorem four_any (n : Int) (w : World) :
    Calls Tryz.prog 237 #[.int .u32 n] w fun e w' => e = .returned (vs (four n)) ∧ Below w.heap.size w w' := by
  have hc := conv_four
  go_enter Tryz.func237, Tryz.ntmps237
  go_wp2
  go_ret
  exact ⟨by simp [strOfNums, four, byteOf], (Below.refl _ _).alloc (Nat.le_refl _) _⟩

set_option maxRecDepth 100000 in
set_option maxHeartbeats 400000 in
theorem takeFour_any (s : ByteArray) (w : World) (hm : s.size ≤ maxLen) (h : 4 ≤ s.size) :
    Calls Tryz.prog 178 #[.string s] w fun e w' => e = .returned (.tuple #[.int .u32 (takeFour s.data.toList), .int .i64 0]) ∧ ∃ nq, w.drewN nq = w' := by
  unfold maxLen at hm
  have g0 : 0 < s.size := by omega
  have g1 : (1 : Int) < (s.size : Int) := by omega
  have g2 : (2 : Int) < (s.size : Int) := by omega
  have g3 : (3 : Int) < (s.size : Int) := by omega
  go_enter Tryz.func178, Tryz.ntmps178
  go_wp2
  go_quiet (fail)
  go_wp2
  go_ret2
  refine ⟨ret_pair ?_ rfl, _, rfl⟩
  refine (takeFour_bits _ _ _ _).trans ?_
  unfold takeFour
  rw [toList_getD s 0 g0, toList_getD s 1 (by omega), toList_getD s 2 (by omega), toList_getD s 3 (by omega)]


theorem bytes_append (a b : List UInt8) : (({ data := a.toArray } : ByteArray) ++ { data := b.toArray }) = { data := (a ++ b).toArray } := by
  apply ByteArray.ext
  simp

theorem takeFour_take (l : List UInt8) (k : Nat) (h : 4 ≤ k) : takeFour (l.take k) = takeFour l := by
  unfold takeFour
  simp only [List.getD_eq_getElem?_getD]
  rw [List.getElem?_take_of_lt (by omega), List.getElem?_take_of_lt (by omega), List.getElem?_take_of_lt (by omega), List.getElem?_take_of_lt (by omega)]

theorem takeEight_bits (a b : Int) (a0 : 0 ≤ a) (a1 : a < 4294967296) (b0 : 0 ≤ b) (b1 : b < 4294967296) :
    bits BinOp.or IntKind.u64 (IntKind.u64.wrap (IntKind.u64.wrap a * 4294967296)) (IntKind.u64.wrap b) = a * 4294967296 + b := by
  rw [u64_wrap_id a a0 (by omega), u64_wrap_id b b0 (by omega), u64_wrap_id _ (by omega) (by omega)]
  rw [bits_join .u64 64 (by decide) wraps_u64 32 _ _ (by omega) (by omega) (by omega) b0 (by omega) (by omega)]

theorem four_length (n : Int) : (four n).length = 4 := rfl
theorem eight_length (n : Int) : (eight n).length = 8 := rfl

set_option maxRecDepth 100000 in
set_option maxHeartbeats 400000 in
theorem eight_any (n : Int) (w : World) (h0 : 0 ≤ n / 4294967296) (h1 : n / 4294967296 < 4294967296) :
    Calls Tryz.prog 208 #[.int .u64 n] w fun e w' => e = .returned (vs (eight n)) ∧ Below w.heap.size w w' := by
  have hl := four_length
  have e1 : n / 4294967296 % 4294967296 = n / 4294967296 := by omega
  have E1 : Hid _ := e1
  clear e1 h0 h1
  go_enter Tryz.func208, Tryz.ntmps208
  go_wp2_with (go_at_call 237; refine (four_any _ _).mono ?_; rintro e w' ⟨rfl, hb⟩)
  go_ret
  rename_i hb1
  rw [E1.out]
  exact ⟨by rw [bytes_append]; rfl, hb1.trans (hb.mono hb1.size)⟩

set_option maxRecDepth 100000 in
set_option maxHeartbeats 400000 in
theorem takeEight_any (s : ByteArray) (w : World) (hm : s.size ≤ maxLen) (h : 8 ≤ s.size) :
    Calls Tryz.prog 179 #[.string s] w fun e w' => e = .returned (.tuple #[.int .u64 (takeEight s.data.toList), .int .i64 0]) ∧ ∃ nq, w.drewN nq = w' := by
  have hm' := hm
  unfold maxLen at hm'
  have g0 : 0 < s.size := by omega
  have ht : takeFour (List.take (s.size - 4) (List.drop 4 s.data.toList)) = takeFour (s.data.toList.drop 4) := takeFour_take _ _ (by omega)
  have ha : s.size - 4 ≤ maxLen := by omega
  have hb : 4 ≤ s.size - 4 := by omega
  go_enter Tryz.func179, Tryz.ntmps179
  go_wp2_with (go_at_call 178; refine (takeFour_any _ _ ?_ ?_).mono ?_; (first | exact hm | simpa using ha); (first | omega | simpa using hb); rintro e w' ⟨rfl, nq, rfl⟩)
  go_ret2
  refine ⟨ret_pair ?_ rfl, _, rfl⟩
  have b1 := takeFour_bd s.data.toList
  have b2 := takeFour_bd (s.data.toList.drop 4)
  exact takeEight_bits _ _ b1.1 b1.2 b2.1 b2.2

end Go.Proofs.YtobmnnihmbdfjaaGreat
