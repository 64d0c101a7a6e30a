/- sort.Search over any closure that tells a rising predicate; slices.Index and Contains over bytes. -/
import Derived.Test.YtobmnnihmbdfjaaGreatBase2
import Derived.Deep.LoopGhost
import Derived.Shelf.Abstract
set_option linter.all false
namespace Go.Proofs.YtobmnnihmbdfjaaGreat
open Go.RowKit

set_option maxHeartbeats 2000000 in
theorem search_any (g : Nat) (cb : Array Value) (n : Nat) (p : Nat → Bool) (w : World) (eg : ∀ args w, (callFunc g args).run Tryz.prog w = .ok (.enter g args) w) (hsz : n < 4611686018427387904)
    (hf : ∀ (W : World) (i : Nat), Below w.heap.size w W → i < n → Calls Tryz.prog g (#[.int .i64 i] ++ cb) W fun e W' => e = .returned (.bool (p i)) ∧ Below W.heap.size W W')
    (hmono : ∀ a b, a ≤ b → b < n → p a = true → p b = true) :
    Calls Tryz.prog 141 #[.int .i64 n, .func (.func g) #[] cb] w fun e w' => ∃ k : Nat, (k ≤ n ∧ (∀ t, t < k → p t = false) ∧ (∀ t, k ≤ t → t < n → p t = true)) ∧ e = .returned (.int .i64 k) ∧ Below w.heap.size w w' := by
  have HF := Lib.hid hf
  have M := Lib.hid hmono
  clear hf hmono
  go_enter Tryz.func141, Tryz.ntmps141
  go_wp2
  go_loopg [5, 6] n (fun kx s5 s6 wr => ∃ (lo hi : Nat), s5 = .int .i64 lo ∧ s6 = .int .i64 hi ∧ lo ≤ hi ∧ hi ≤ n ∧ hi - lo ≤ kx ∧ Below w.heap.size w wr ∧
    Hid ((∀ t, t < lo → p t = false) ∧ (∀ t, hi ≤ t → t < n → p t = true)))
  case atStart => exact ⟨0, n, rfl, rfl, Nat.zero_le _, Nat.le_refl _, by omega, Below.refl _ _, Lib.hid ⟨fun t ht => absurd ht (Nat.not_lt_zero _), fun t h1 h2 => by omega⟩⟩
  case round =>
    obtain ⟨lo, hi, rfl, rfl, hlh, hin, hg, hb, I⟩ := hrel
    have HB := Lib.hid hb
    clear hb
    by_cases hlt : lo < hi
    · have hc := HF.out wr ((lo + hi) / 2) HB.out (by omega)
      rw [show (((lo + hi) / 2 : Nat) : Int) = ((lo : Int) + (hi : Int)) / 2 by omega] at hc
      cases hp : p ((lo + hi) / 2) <;> rw [hp] at hc
      · have HP := Lib.hid hp
        clear hp
        go_wp2_with (go_at_fn g; refine hc.mono ?_; rintro e w' ⟨rfl, hb'⟩)
        go_roundg (hi - ((lo + hi) / 2 + 1))
        case measure => omega
        case rel =>
          exact ⟨(lo + hi) / 2 + 1, hi, by rw [show ((lo : Int) + (hi : Int)) / 2 + 1 = (((lo + hi) / 2 + 1 : Nat) : Int) by omega], rfl, by omega, hin, Nat.le_refl _, belowThen HB.out hb', Lib.hid ⟨fun t ht => (by
            cases h : p t with
            | false => rfl
            | true => have := M.out t ((lo + hi) / 2) (by omega) (by omega) h; rw [HP.out] at this; cases this), I.out.2⟩⟩
      · have HP := Lib.hid hp
        clear hp
        go_wp2_with (go_at_fn g; refine hc.mono ?_; rintro e w' ⟨rfl, hb'⟩)
        go_roundg ((lo + hi) / 2 - lo)
        case measure => omega
        case rel =>
          exact ⟨lo, (lo + hi) / 2, rfl, by rw [show ((lo : Int) + (hi : Int)) / 2 = (((lo + hi) / 2 : Nat) : Int) by omega], by omega, by omega, Nat.le_refl _, belowThen HB.out hb', Lib.hid ⟨I.out.1, fun t ht htn => M.out ((lo + hi) / 2) t ht htn HP.out⟩⟩
    · obtain rfl : hi = lo := by omega
      go_wp2
      go_ret
      exact ⟨hi, ⟨hin, I.out.1, I.out.2⟩, rfl, HB.out⟩

/-- Bytes that lie in a row. -/
def U8At (w : World) (v : Value) (l : List Int) : Prop :=
  ∃ b off cap, v = .slice (some ⟨b, off, none⟩) l.length cap ∧ b < w.heap.size ∧ ∀ j c, l[j]? = some c → w.cell? ⟨b, off + j, none⟩ = some (.int .u8 c)

def IdxPost (l : List Int) (c : Int) (w : World) (e : Ending) (w' : World) : Prop := ∃ k : Int, (decide (0 ≤ k) = l.contains c) ∧ -1 ≤ k ∧ k ≤ 1000 ∧ e = .returned (.int .i64 k) ∧ w = w'

set_option maxHeartbeats 2000000 in
theorem index_u8 (l : List Int) (c : Int) (b off cap : Nat) (w : World) (hl : l.length ≤ 1000) (hc : ∀ j x, l[j]? = some x → w.cell? ⟨b, off + j, none⟩ = some (.int .u8 x)) :
    Calls Tryz.prog 244 #[.slice (some ⟨b, off, none⟩) l.length cap, .int .u8 c] w (IdxPost l c w) := by
  have HC := Lib.hid hc
  clear hc
  go_enter Tryz.func244, Tryz.ntmps244
  go_wp2
  go_loop [5, 8] (fun _ i => ∃ k : Nat, i = .int .i64 k ∧ k ≤ l.length ∧ Hid (∀ j, j < k → l[j]? ≠ some c)) (fun _ i => l.length - (intOf i).toNat)
  case atStart => exact ⟨0, rfl, Nat.zero_le _, Lib.hid (fun j hj => absurd hj (Nat.not_lt_zero _))⟩
  case round =>
    obtain ⟨k, rfl, hk, I⟩ := hrel
    by_cases hlt : k < l.length
    · obtain ⟨x, hx⟩ : ∃ x, l[k]? = some x := ⟨_, List.getElem?_eq_getElem hlt⟩
      have h0 := HC.out k x hx
      have HX := Lib.hid hx
      have HLT := Lib.hid hlt
      clear hx
      by_cases hxc : c = x
      · subst hxc
        go_wp2
        go_ret
        have hm : l.contains c = true := by simpa using List.mem_of_getElem? HX.out
        exact ⟨k, by rw [hm]; simp, by omega, by omega, rfl, rfl⟩
      · have e1 : (c == x) = false := by simpa using hxc
        go_wp2
        go_round
        case rel =>
          refine ⟨k + 1, by go_num, HLT.out, Lib.hid fun j hj => ?_⟩
          by_cases hjk : j = k
          · subst hjk; rw [HX.out]; simpa using fun h => hxc h.symm
          · exact I.out j (by omega)
        case measure => have := HLT.out; simp [intOf]; omega
    · have : k = l.length := by omega
      subst this
      go_wp2
      go_ret
      have hm : l.contains c = false := by
        rw [Bool.eq_false_iff]
        intro h
        have h2 : c ∈ l := by simpa using h
        obtain ⟨j, hj, e⟩ := List.getElem_of_mem h2
        exact I.out j hj (by rw [List.getElem?_eq_getElem hj, e])
      exact ⟨-1, by rw [hm]; decide, by omega, by omega, rfl, rfl⟩

theorem contains_u8 (l : List Int) (c : Int) (b off cap : Nat) (w : World) (hl : l.length ≤ 1000) (hc : ∀ j x, l[j]? = some x → w.cell? ⟨b, off + j, none⟩ = some (.int .u8 x)) :
    Calls Tryz.prog 189 #[.slice (some ⟨b, off, none⟩) l.length cap, .int .u8 c] w fun e w' => e = .returned (.bool (l.contains c)) ∧ w = w' := by
  have HC := Lib.hid hc
  clear hc
  have HL := Lib.hid hl
  clear hl
  go_enter Tryz.func189, Tryz.ntmps189
  go_wp2_with (go_at_call 244; refine (index_u8 l c b off cap _ HL.out HC.out).mono ?_; rintro e w' ⟨k, hk, k1, k2, rfl, rfl⟩; have HK := Lib.hid hk; clear hk)
  go_ret
  exact ⟨by rw [HK.out]; rfl, rfl⟩

end Go.Proofs.YtobmnnihmbdfjaaGreat
