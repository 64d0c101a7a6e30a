/- Pages of trees: what node.Take comes to, as plain Lean; and that it takes what Put wrote. -/
import Derived.Test.YtobmnnihmbdfjaaGreatNode7
set_option linter.all false
namespace Go.Proofs.YtobmnnihmbdfjaaGreat
open Go.RowKit

theorem padN_length (l : List UInt8) (h : l.length ≤ 512) : (padN l).length = 512 := by simp [padN]; omega

/-- What is left, and whether all was there so far. -/
structure RestM where
  s : List UInt8
  ok : Bool

def rtext (n : Int) (r : RestM) : List UInt8 × RestM :=
  if (r.s.length : Int) < n then ([], ⟨r.s, false⟩) else (r.s.take n.toNat, ⟨r.s.drop n.toNat, r.ok⟩)
def rnum (n : Int) (r : RestM) : Int × RestM := (numOf (rtext n r).1, (rtext n r).2)

theorem rtext_app (a t : List UInt8) (ok : Bool) (n : Int) (hn : n = a.length) : rtext n ⟨a ++ t, ok⟩ = (a, ⟨t, ok⟩) := by
  subst hn
  simp [rtext]; omega
theorem rtext_len (n : Int) (r : RestM) : (rtext n r).2.s.length ≤ r.s.length := by
  unfold rtext; split <;> simp
theorem rtext_t (n : Int) (h : 0 ≤ n) (r : RestM) : ((rtext n r).1.length : Int) ≤ n := by
  unfold rtext; split
  · simpa using h
  · simp [List.length_take]; omega
theorem rtext_ts (n : Int) (r : RestM) : (rtext n r).1.length ≤ r.s.length := by
  unfold rtext; split
  · simp
  · simp only [List.length_take]; omega
theorem rtext_less (n : Int) (h : 1 ≤ n) (r : RestM) (hk : (rtext n r).2.ok = true) : (rtext n r).2.s.length + 1 ≤ r.s.length ∧ r.ok = true := by
  unfold rtext at hk ⊢; split
  · rename_i c; rw [if_pos c] at hk; simp at hk
  · rename_i c; rw [if_neg c] at hk; simp at hk ⊢; exact ⟨by omega, hk⟩
theorem rtext_ok (n : Int) (r : RestM) (hk : (rtext n r).2.ok = true) : r.ok = true := by
  unfold rtext at hk; split at hk
  · simp at hk
  · exact hk
theorem rnum_app (a t : List UInt8) (ok : Bool) (n : Int) (hn : n = a.length) : rnum n ⟨a ++ t, ok⟩ = (numOf a, ⟨t, ok⟩) := by
  unfold rnum; rw [rtext_app a t ok n hn]

/-- A cell is taken. -/
def parseCell (kind : Int) (r : RestM) : CellM × RestM :=
  let a := rnum 1 r
  let b := rtext a.1 a.2
  let c := if kind = 1 then rnum 2 b.2 else (0, b.2)
  let d := if kind = 1 then rtext (min c.1 100) c.2 else ([], c.2)
  let e := if kind = 2 ∨ 100 < c.1 then rnum 4 d.2 else (0, d.2)
  (⟨b.1, c.1, d.1, e.1⟩, e.2)
def parseCells (kind : Int) : Nat → RestM → List CellM → List CellM × RestM
  | 0, r, acc => (acc, r)
  | n + 1, r, acc => if r.ok = true then parseCells kind n (parseCell kind r).2 (acc ++ [(parseCell kind r).1]) else (acc, r)
def parseN (s : List UInt8) : NodeM :=
  let k := rnum 1 ⟨s, true⟩
  let m := rnum 2 k.2
  let f := if k.1 = 1 then (0, m.2) else rnum 4 m.2
  if k.1 = 3 then ⟨k.1, f.1, [], (rtext m.1 f.2).1⟩
  else if k.1 = 1 ∨ k.1 = 2 then ⟨k.1, f.1, (parseCells k.1 m.1.toNat f.2 []).1, []⟩
  else ⟨k.1, f.1, [], []⟩
def takeN (s : List UInt8) : Option NodeM :=
  if s.length ≠ 512 then none else if putN (parseN s) = (s, 0) then some (parseN s) else none

theorem parseCells_no (kind : Int) (n : Nat) (r : RestM) (acc : List CellM) (h : r.ok = false) : parseCells kind n r acc = (acc, r) := by
  cases n with
  | zero => rfl
  | succ n => simp [parseCells, h]

theorem byteOf_int (n : Int) (h0 : 0 ≤ n) (h1 : n < 256) : ((byteOf n).toNat : Int) = n := by
  have : n % 256 = n := by omega
  simp only [byteOf, this]
  rw [UInt8.toNat_ofNat']
  omega
theorem byteOf_mod (n : Int) : ((byteOf n).toNat : Int) = n % 256 := by
  simp only [byteOf]
  rw [UInt8.toNat_ofNat']
  omega
theorem numOf_one (n : Int) (h0 : 0 ≤ n) (h1 : n < 256) : numOf [byteOf n] = n := by simp [numOf, byteOf_int n h0 h1]
theorem numOf_two (n : Int) (h0 : 0 ≤ n) (h1 : n < 65536) : numOf (two n) = n := by simp [numOf, two, byteOf_mod]; omega
theorem numOf_four (n : Int) (h0 : 0 ≤ n) (h1 : n < 4294967296) : numOf (four n) = n := by simp [numOf, four, byteOf_mod]; omega

/-- What a cell that may be on a leaf is. -/
theorem cellB_leaf {c : CellM} (h : cellB 1 c = true) : c.key.length ≤ 100 ∧ 0 ≤ c.size ∧ c.size ≤ 4000 ∧ (c.loc.length : Int) = min c.size 100 ∧ (100 < c.size → 1 ≤ c.page ∧ c.page ≤ 256) ∧ (¬ 100 < c.size → c.page = 0) := by
  simp only [cellB] at h
  split at h
  · exact absurd h (by simp)
  · rw [if_neg (by decide)] at h
    split at h
    · exact absurd h (by simp)
    · refine ⟨by omega, by omega, by omega, by omega, ?_, ?_⟩
      · intro hg; rw [if_pos hg] at h; simpa [pageN] using h
      · intro hg; rw [if_neg hg] at h; simpa using h
theorem cellB_inner {c : CellM} (h : cellB 2 c = true) : c.key.length ≤ 100 ∧ c.size = 0 ∧ c.loc = [] ∧ 1 ≤ c.page ∧ c.page ≤ 256 := by
  simp only [cellB] at h
  split at h
  · exact absurd h (by simp)
  · simp [pageN] at h
    exact ⟨by omega, h.1.1, h.1.2, h.2.1, h.2.2⟩

theorem parseCell_leaf {c : CellM} (h : cellB 1 c = true) (t : List UInt8) (ok : Bool) : parseCell 1 ⟨cellBytes 1 c ++ t, ok⟩ = (c, ⟨t, ok⟩) := by
  obtain ⟨h1, h2, h3, h4, h5, h6⟩ := cellB_leaf h
  obtain ⟨key, size, loc, page⟩ := c
  simp only at h1 h2 h3 h4 h5 h6
  have e : cellBytes 1 ⟨key, size, loc, page⟩ ++ t = [byteOf key.length] ++ (key ++ (two size ++ (loc ++ ((if 0 < page then four page else []) ++ t)))) := by simp [cellBytes]
  rw [e]
  simp only [parseCell]
  rw [rnum_app [byteOf (key.length : Int)] _ ok 1 (by simp)]
  rw [numOf_one _ (by omega) (by omega)]
  simp only
  rw [rtext_app key _ ok _ rfl]
  simp only [if_true]
  rw [rnum_app (two size) _ ok 2 (by rw [two_length]; rfl), numOf_two _ h2 (by omega)]
  simp only
  rw [rtext_app loc _ ok _ h4.symm]
  simp only
  by_cases g : 100 < size
  · obtain ⟨p1, p2⟩ := h5 g
    rw [if_pos (.inr g), if_pos (by omega), rnum_app (four page) _ ok 4 rfl, numOf_four _ (by omega) (by omega)]
  · rw [if_neg (by simp [g]), h6 g]; simp
theorem parseCell_inner {c : CellM} (h : cellB 2 c = true) (t : List UInt8) (ok : Bool) : parseCell 2 ⟨cellBytes 2 c ++ t, ok⟩ = (c, ⟨t, ok⟩) := by
  obtain ⟨h1, h2, h3, h4, h5⟩ := cellB_inner h
  obtain ⟨key, size, loc, page⟩ := c
  simp only at h1 h2 h3 h4 h5
  subst h2 h3
  have e : cellBytes 2 ⟨key, 0, [], page⟩ ++ t = [byteOf key.length] ++ (key ++ (four page ++ t)) := by simp [cellBytes]; omega
  rw [e]
  simp only [parseCell]
  rw [rnum_app [byteOf (key.length : Int)] _ ok 1 (by simp)]
  rw [numOf_one _ (by omega) (by omega)]
  simp only
  rw [rtext_app key _ ok _ rfl]
  simp only [show ¬ (2 : Int) = 1 by decide, if_false, true_or, if_true]
  rw [rnum_app (four page) _ ok 4 rfl, numOf_four _ (by omega) (by omega)]

theorem cellsB_mem {k : Int} {l : List CellM} (h : cellsB k l = true) : ∀ c ∈ l, cellB k c = true := by
  intro c hc
  obtain ⟨i, hi, rfl⟩ := List.getElem_of_mem hc
  have h1 := List.all_eq_true.1 h i (by simpa using hi)
  rw [okAt, List.getElem?_eq_getElem hi] at h1
  simp only [Bool.and_eq_true] at h1
  exact h1.1

theorem parseCells_app (k : Int) (hp : ∀ c, cellB k c = true → ∀ t ok, parseCell k ⟨cellBytes k c ++ t, ok⟩ = (c, ⟨t, ok⟩)) : ∀ (l : List CellM), (∀ c ∈ l, cellB k c = true) → ∀ (acc : List CellM) (t : List UInt8),
    parseCells k l.length ⟨l.flatMap (cellBytes k) ++ t, true⟩ acc = (acc ++ l, ⟨t, true⟩)
  | [], _, acc, t => by simp [parseCells]
  | c :: l, h, acc, t => by
    have h1 := hp c (h c (by simp)) (l.flatMap (cellBytes k) ++ t) true
    simp only [List.length_cons, parseCells, List.flatMap_cons, List.append_assoc, if_true]
    rw [h1]
    simp only
    rw [parseCells_app k hp l (fun d hd => h d (by simp [hd]))]
    simp

theorem parseN_put (x : NodeM) (hm : mayN x = true) (hl : (bytesN x).length ≤ 512) : parseN (padN (bytesN x)) = x := by
  obtain ⟨kind, first, l, data⟩ := x
  generalize hz : List.replicate (512 - (bytesN ⟨kind, first, l, data⟩).length) (0 : UInt8) = z
  have hb : (bytesN ⟨kind, first, l, data⟩).length = 3 + (if kind = 1 then 0 else 4) + (l.flatMap (cellBytes kind)).length + data.length := by
    simp only [bytesN, headN, List.length_append]
    split <;> simp [two, four]
  have hp : padN (bytesN ⟨kind, first, l, data⟩) = [byteOf kind] ++ (two (max (l.length : Int) (data.length : Int)) ++ ((if kind = 1 then [] else four first) ++ (l.flatMap (cellBytes kind) ++ (data ++ z)))) := by
    simp only [padN, hz]
    simp [bytesN, headN]
  rw [hp]
  have hfl : ∀ k (l : List CellM), l.length ≤ (l.flatMap (cellBytes k)).length := by
    intro k l
    induction l with
    | nil => simp
    | cons c l ih => rw [List.flatMap_cons, List.length_append, List.length_cons]; have : 1 ≤ (cellBytes k c).length := by simp [cellBytes]
                     omega
  rw [hb] at hl
  have hll : l.length ≤ 512 := by have := hfl kind l; omega
  have hdl : data.length ≤ 512 := by omega
  simp only [parseN]
  have hk : kind = 1 ∨ kind = 2 ∨ kind = 3 ∨ kind = 4 := by
    simp only [mayN] at hm
    by_cases k1 : kind = 1; · exact .inl k1
    by_cases k2 : kind = 2; · exact .inr (.inl k2)
    by_cases k3 : kind = 3; · exact .inr (.inr (.inl k3))
    by_cases k4 : kind = 4; · exact .inr (.inr (.inr k4))
    simp [k1, k2, k3, k4] at hm
  rw [rnum_app [byteOf kind] _ true 1 (by simp), numOf_one _ (by omega) (by omega)]
  simp only
  rw [rnum_app (two _) _ true 2 (by rw [two_length]; rfl), numOf_two _ (by omega) (by omega)]
  simp only
  rcases hk with rfl | rfl | rfl | rfl
  · simp [mayN] at hm
    obtain ⟨⟨rfl, rfl⟩, h3⟩ := hm
    simp only [if_true, List.length_nil, List.nil_append, true_or]
    have := parseCells_app 1 (fun c h t ok => parseCell_leaf h t ok) l (cellsB_mem h3) [] z
    rw [show (max (l.length : Int) ((0 : Nat) : Int)).toNat = l.length by omega, this]
    simp
  · simp [mayN, pageN] at hm
    obtain ⟨⟨⟨h1, rfl⟩, -⟩, h3⟩ := hm
    simp only [show ¬ (2 : Int) = 1 by decide, show ¬ (2 : Int) = 3 by decide, if_false, List.length_nil, List.nil_append, or_true, if_true]
    rw [rnum_app (four first) _ true 4 rfl, numOf_four _ (by omega) (by omega)]
    have := parseCells_app 2 (fun c h t ok => parseCell_inner h t ok) l (cellsB_mem h3) [] z
    simp only
    rw [show (max (l.length : Int) ((0 : Nat) : Int)).toNat = l.length by omega, this]
    simp
  · simp [mayN, pageN] at hm
    obtain ⟨⟨⟨h1, h2⟩, h3⟩, rfl⟩ := hm
    simp only [show ¬ (3 : Int) = 1 by decide, if_false, List.length_nil, List.flatMap_nil, List.nil_append, if_true]
    rw [rnum_app (four first) _ true 4 rfl, numOf_four _ (by omega) (by omega)]
    simp only
    rw [rtext_app data z true _ (by omega)]
  · simp [mayN, pageN] at hm
    obtain ⟨⟨h1, rfl⟩, rfl⟩ := hm
    simp only [show ¬ (4 : Int) = 1 by decide, show ¬ (4 : Int) = 2 by decide, show ¬ (4 : Int) = 3 by decide, if_false, List.length_nil, List.flatMap_nil, List.nil_append, or_false]
    rw [rnum_app (four first) _ true 4 rfl, numOf_four _ (by omega) (by omega)]

/-- What Put wrote is taken. -/
theorem takeN_put (x : NodeM) (hm : mayN x = true) (hl : (bytesN x).length ≤ 512) : takeN (padN (bytesN x)) = some x := by
  have h := parseN_put x hm hl
  unfold takeN
  have hne : ¬ (padN (bytesN x)).length ≠ 512 := by rw [padN_length _ hl]; simp
  rw [if_neg hne, h, if_pos]
  rw [putN, hm, if_neg (by decide), if_neg (by omega)]
/-- What is taken was put. -/
theorem takeN_some {s : List UInt8} {x : NodeM} (h : takeN s = some x) : mayN x = true ∧ (bytesN x).length ≤ 512 ∧ s = padN (bytesN x) := by
  unfold takeN at h
  split at h
  · cases h
  · split at h
    · rename_i hp
      simp only [Option.some.injEq] at h
      subst h
      unfold putN at hp
      split at hp
      · simp at hp
      · split at hp
        · simp at hp
        · rename_i a b
          simp only [Prod.mk.injEq, and_true] at hp
          exact ⟨by simpa using a, by omega, hp.symm⟩
    · cases h

/-! ### At the calls -/
theorem rtext_any (n : Int) (h0 : 0 ≤ n) (r r' : RestM) (t : List UInt8) (hr : rtext n r = (t, r')) (b : Nat) (w : World) (hl : r.s.length ≤ 100000) (hb : w.heap[b]? = some (restO r.s r.ok)) :
    Calls Tryz.prog 182 #[ptr b, .int .i64 n] w fun e w' => e = .returned (vs t) ∧ w'.heap[b]? = some (restO r'.s r'.ok) ∧ Chg [b] w w' := by
  unfold rtext at hr
  split at hr
  · rename_i hc
    cases hr
    exact (restO_bad r.s n r.ok b w hc hb).mono fun e w' ⟨a, b, c, _⟩ => ⟨a, b, c⟩
  · rename_i hc
    cases hr
    obtain ⟨m, rfl⟩ : ∃ m : Nat, n = m := ⟨n.toNat, by omega⟩
    exact (restO_ok r.s m r.ok b w (by omega) hl hb).mono fun e w' ⟨a, b, c, _⟩ => ⟨a, b, c⟩
theorem rnum_any (n : Int) (h0 : 0 ≤ n) (h4 : n ≤ 4) (r r' : RestM) (t : Int) (hr : rnum n r = (t, r')) (b : Nat) (w : World) (hl : r.s.length ≤ 100000) (hb : w.heap[b]? = some (restO r.s r.ok)) :
    Calls Tryz.prog 181 #[ptr b, .int .i64 n] w fun e w' => e = .returned (.int .i64 t) ∧ w'.heap[b]? = some (restO r'.s r'.ok) ∧ Chg [b] w w' := by
  unfold rnum rtext at hr
  split at hr
  · rename_i hc
    cases hr
    exact num_bad r.s n r.ok b w hc hb
  · rename_i hc
    cases hr
    obtain ⟨m, rfl⟩ : ∃ m : Nat, n = m := ⟨n.toNat, by omega⟩
    exact num_ok r.s m r.ok b w (by omega) (by omega) hl hb
theorem rnum_facts {n : Int} {r r' : RestM} {t : Int} (hr : rnum n r = (t, r')) (h0 : 0 ≤ n) : 0 ≤ t ∧ t < 256 ^ n.toNat ∧ r'.s.length ≤ r.s.length ∧ (1 ≤ n → r'.ok = true → r'.s.length + 1 ≤ r.s.length) ∧ (r'.ok = true → r.ok = true) := by
  have e1 : t = numOf (rtext n r).1 := by rw [rnum] at hr; exact (congrArg Prod.fst hr).symm
  have e2 : r' = (rtext n r).2 := by rw [rnum] at hr; exact (congrArg Prod.snd hr).symm
  subst e1 e2
  have b := numOf_bd (rtext n r).1
  have l := rtext_t n h0 r
  refine ⟨b.1, Int.lt_of_lt_of_le b.2 ?_, rtext_len n r, fun h1 hk => (rtext_less n h1 r hk).1, fun hk => rtext_ok n r hk⟩
  have h2 : 256 ^ (rtext n r).1.length ≤ 256 ^ n.toNat := Nat.pow_le_pow_right (by decide) (by omega)
  rw [show (256 : Int) = ((256 : Nat) : Int) from rfl, ← Int.natCast_pow, ← Int.natCast_pow]
  exact Int.ofNat_le.2 h2
theorem rtext_facts {n : Int} {r r' : RestM} {t : List UInt8} (hr : rtext n r = (t, r')) (h0 : 0 ≤ n) : (t.length : Int) ≤ n ∧ t.length ≤ r.s.length ∧ r'.s.length ≤ r.s.length ∧ (r'.ok = true → r.ok = true) := by
  have e1 : t = (rtext n r).1 := by rw [hr]
  have e2 : r' = (rtext n r).2 := by rw [hr]
  subst e1 e2
  exact ⟨rtext_t n h0 r, rtext_ts n r, rtext_len n r, fun hk => rtext_ok n r hk⟩

end Go.Proofs.YtobmnnihmbdfjaaGreat
