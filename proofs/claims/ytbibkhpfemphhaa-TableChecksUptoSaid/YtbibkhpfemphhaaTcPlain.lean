/- What the printed functions of TableChecks tell, in plain Lean: names, rows of rates, Check, copies. No condition. -/
import Derived.Test.YtbibkhpfemphhaaPTableChecksx1
import Derived.Test.YtbibkhpfemphhaaPTableChecksx6
import Derived.Laws.Strings
namespace Go.Proofs.Ytbibkhpfemphhaa.TcPlain
open Go.RowKit Go.Proofs.YtbibkhpfemphhaaW.PrintWords Go.Proofs.YtbibkhpfemphhaaW.PrintLast Go.Proofs.YtbibkhpfemphhaaW.PrintMore
open Go.Proofs.Ytbibkhpfemphhaa.PTableChecks

theorem w64 {n : Int} (h0 : -9223372036854775808 ≤ n) (h1 : n < 9223372036854775808) : wrap64 n = n := by unfold wrap64; omega

def ok1 (b : Int) : Bool := if 97 ≤ b ∧ b ≤ 122 then true else if 48 ≤ b ∧ b ≤ 57 then true else b == 95
/-- m bytes from i on may stand in a name. -/
def okAll (x : ByteArray) : Nat → Int → Bool
  | 0, _ => true
  | m + 1, i => ok1 (bt x i) && okAll x m (i + 1)
def nameB (x : ByteArray) : Bool := if x.size = 0 then false else if 24 < x.size then false else if 97 ≤ bt x 0 ∧ bt x 0 ≤ 122 then okAll x (x.size - 1) 1 else false

theorem name_l0 (x : ByteArray) (hx : x.size < 4611686018427387904) : ∀ (m k : Nat) (i : Int), 0 ≤ i → i + m = (x.size : Int) → m < k → tontinebase_Name.l0 k x i = some (okAll x m i) := by
  intro m
  induction m with
  | zero =>
    intro k i h0 hi hk
    obtain ⟨k, rfl⟩ : ∃ k', k = k' + 1 := ⟨k - 1, by omega⟩
    unfold tontinebase_Name.l0
    rw [if_neg (by omega)]; rfl
  | succ m ih =>
    intro k i h0 hi hk
    obtain ⟨k, rfl⟩ : ∃ k', k = k' + 1 := ⟨k - 1, by omega⟩
    unfold tontinebase_Name.l0
    rw [if_pos (by omega), if_pos h0, w64 (by omega) (by omega), ih k (i + 1) (by omega) (by omega) (by omega)]
    simp only [okAll, ok1]
    repeat' split
    all_goals first | rfl | (simp_all; done) | (exfalso; omega)
theorem letter_f (b : Int) (f : Bool) : table_letter.f b f = some (if f = true then decide (97 ≤ b ∧ b ≤ 122) else ok1 b) := by
  unfold table_letter.f ok1
  cases f <;> simp only [if_true, if_false, Bool.false_eq_true, ge_iff_le] <;> repeat' split
  all_goals first | rfl | omega | (simp_all; done) | (simp_all; omega)
theorem named_l0 (x : ByteArray) (hx : x.size < 4611686018427387904) (hp : 0 < x.size) : ∀ (m k : Nat) (i : Int), 0 < i → i + m = (x.size : Int) → m < k → table_named.l0 k x x.size i = some (okAll x m i && decide (x.size ≤ 24)) := by
  have hne : x.toList ≠ [] := by
    intro h
    have := congrArg List.length h
    rw [ByteArray.toList_eq, data_length, List.length_nil] at this
    omega
  intro m
  induction m with
  | zero =>
    intro k i h0 hi hk
    obtain ⟨k, rfl⟩ : ∃ k', k = k' + 1 := ⟨k - 1, by omega⟩
    unfold table_named.l0
    rw [if_neg (by omega), if_neg hne]
    simp only [okAll, Bool.true_and, Option.some.injEq, decide_eq_decide]
    omega
  | succ m ih =>
    intro k i h0 hi hk
    obtain ⟨k, rfl⟩ : ∃ k', k = k' + 1 := ⟨k - 1, by omega⟩
    unfold table_named.l0
    rw [if_pos (by omega), if_pos (by omega), if_pos (by omega), w64 (by omega) (by omega), ih k (i + 1) (by omega) (by omega) (by omega), letter_f, beq_eq_false_iff_ne.2 (by omega)]
    simp only [Bool.false_eq_true, if_false, Option.bind_some, okAll]
    cases ok1 (bt x i) <;> simp
theorem Name_f (x : ByteArray) (hx : x.size < 4611686018427387904) (k : Nat) (hk : x.size + 1 < k) : tontinebase_Name.f k x = some (nameB x) := by
  obtain ⟨k, rfl⟩ : ∃ k', k = k' + 1 := ⟨k - 1, by omega⟩
  unfold tontinebase_Name.f nameB
  by_cases h0 : x.size = 0
  · rw [if_pos (by omega), if_pos h0]; rfl
  rw [if_neg (by omega), if_neg h0]
  by_cases h1 : 24 < x.size
  · rw [if_pos (by omega), if_pos h1]; rfl
  rw [if_neg (by omega), if_neg h1, if_pos (by omega)]
  by_cases h2 : bt x 0 < 97
  · rw [if_pos h2, if_neg (by omega)]; rfl
  rw [if_neg h2]
  by_cases h3 : bt x 0 > 122
  · rw [decide_eq_true h3, if_neg (by omega)]; rfl
  rw [decide_eq_false h3, if_pos (by omega)]
  simp only [tontinebase_Name.j0, Bool.false_eq_true, if_false]
  rw [name_l0 x hx x.size k 0 (by omega) (by omega) (by omega)]
  obtain ⟨n, hn⟩ : ∃ n, x.size = n + 1 := ⟨x.size - 1, by omega⟩
  rw [hn]
  have : ok1 (bt x 0) = true := by unfold ok1; rw [if_pos (by omega)]
  simp [okAll, this]
theorem named_f (x : ByteArray) (hx : x.size < 4611686018427387904) (k : Nat) (hk : x.size + 1 < k) : table_named.f k x = some (nameB x) := by
  obtain ⟨k, rfl⟩ : ∃ k', k = k' + 1 := ⟨k - 1, by omega⟩
  unfold table_named.f nameB
  by_cases h0 : x.size = 0
  · unfold table_named.l0
    have he : x.toList = [] := by
      apply List.eq_nil_of_length_eq_zero
      rw [ByteArray.toList_eq, data_length, h0]
    rw [if_neg (by omega), if_pos he, if_pos h0]
  rw [if_neg h0]
  unfold table_named.l0
  rw [if_pos (by omega), if_pos (by omega), if_pos (by omega), letter_f, w64 (by omega) (by omega), named_l0 x hx (by omega) (x.size - 1) k (0 + 1) (by omega) (by omega) (by omega)]
  simp only [beq_self_eq_true, if_true, Option.bind_some]
  by_cases h1 : 24 < x.size
  · rw [if_pos h1]
    simp [show ¬ x.size ≤ 24 by omega]
  rw [if_neg h1]
  simp only [decide_eq_true (show x.size ≤ 24 by omega), Bool.and_true, decide_eq_true_eq]
  split <;> simp

def bad (l : List Int) (i : Int) : Bool := decide (rd l i < 0) || decide (rd l i > 10000000) || ((rd l i == 10000000) != (i == (l.length : Int) - 1))
def rowR (l : List Int) : Nat → Int → Bool
  | 0, _ => decide (0 < l.length)
  | m + 1, i => if bad l i = true then false else rowR l m (i + 1)
def rowB (l : List Int) : Bool := rowR l l.length 0
theorem row_l0 (l : List Int) (hl : l.length < 4611686018427387904) : ∀ (m k : Nat) (i : Int), 0 ≤ i → i + m = (l.length : Int) → m < k → tontineref09_row.l0 k l i = some (rowR l m i) := by
  intro m
  induction m with
  | zero =>
    intro k i h0 hi hk
    obtain ⟨k, rfl⟩ : ∃ k', k = k' + 1 := ⟨k - 1, by omega⟩
    unfold tontineref09_row.l0
    rw [if_neg (by omega)]
    simp [rowR]
  | succ m ih =>
    intro k i h0 hi hk
    obtain ⟨k, rfl⟩ : ∃ k', k = k' + 1 := ⟨k - 1, by omega⟩
    unfold tontineref09_row.l0
    rw [if_pos (by omega), if_pos h0, w64 (by omega) (by omega), w64 (n := i + 1) (by omega) (by omega), ih k (i + 1) (by omega) (by omega) (by omega)]
    simp only [rowR, bad]
    repeat' split
    all_goals first | rfl | (simp_all; done) | (simp_all; omega)
theorem falling_l0 (l : List Int) (hl : l.length < 4611686018427387904) : ∀ (m k : Nat) (i : Int), 0 ≤ i → i + m = (l.length : Int) → m < k → table_falling.l0 k l l l.length i = some (rowR l m i) := by
  intro m
  induction m with
  | zero =>
    intro k i h0 hi hk
    obtain ⟨k, rfl⟩ : ∃ k', k = k' + 1 := ⟨k - 1, by omega⟩
    unfold table_falling.l0
    rw [if_neg (by omega)]
    simp [rowR]
  | succ m ih =>
    intro k i h0 hi hk
    obtain ⟨k, rfl⟩ : ∃ k', k = k' + 1 := ⟨k - 1, by omega⟩
    unfold table_falling.l0
    rw [if_pos (by omega), if_pos h0, if_pos (by omega), w64 (by omega) (by omega), w64 (n := i + 1) (by omega) (by omega), ih k (i + 1) (by omega) (by omega) (by omega)]
    simp only [rowR, bad]
    repeat' split
    all_goals first | rfl | (simp_all; done) | (simp_all; omega)
theorem row_f (l : List Int) (hl : l.length < 4611686018427387904) (k : Nat) (hk : l.length < k) : tontineref09_row.f k l = some (rowB l) := row_l0 l hl l.length k 0 (by omega) (by omega) hk
theorem falling_f (l : List Int) (hl : l.length < 4611686018427387904) (k : Nat) (hk : l.length < k) : table_falling.f k l = some (rowB l) := falling_l0 l hl l.length k 0 (by omega) (by omega) hk

def selR (n : Nat) (s : List (List Int)) : Nat → Int → Int
  | 0, _ => 0
  | m + 1, i => if ((rd_L1 s i).length : Int) = (n : Int) - i then (if rowB (rd_L1 s i) = true then selR n s m (i + 1) else 90) else 90
def checkV (x : ByteArray) (first : Int) (r : List Int) (s : List (List Int)) : Int :=
  if nameB x = true then
    if first < 0 ∨ first > 130 ∨ r.length = 0 ∨ (r.length : Int) > 131 - first then 8
    else if rowB r = true then if 10 < s.length ∨ r.length < s.length then 90 else selR r.length s s.length 0 else 90
  else 2

theorem ref_l0 (x : ByteArray) (first : Int) (r : List Int) (s : List (List Int)) (hr : r.length < 4611686018427387904) (hs : s.length < 4611686018427387904) : ∀ (m k : Nat) (i : Int), 0 ≤ i → i + m = (s.length : Int) → m + r.length + 1 < k → tontineref09_Check.l0 k i x first r s = some (selR r.length s m i) := by
  intro m
  induction m with
  | zero =>
    intro k i h0 hi hk
    obtain ⟨k, rfl⟩ : ∃ k', k = k' + 1 := ⟨k - 1, by omega⟩
    unfold tontineref09_Check.l0
    rw [if_neg (by omega)]; rfl
  | succ m ih =>
    intro k i h0 hi hk
    obtain ⟨k, rfl⟩ : ∃ k', k = k' + 1 := ⟨k - 1, by omega⟩
    unfold tontineref09_Check.l0
    rw [if_pos (by omega), if_pos h0, w64 (by omega) (by omega), w64 (n := i + 1) (by omega) (by omega), ih k (i + 1) (by omega) (by omega) (by omega)]
    simp only [selR]
    by_cases h1 : ((rd_L1 s i).length : Int) = (r.length : Int) - i
    · rw [if_pos h1, if_pos h1, row_f _ (by omega) k (by omega), Option.bind_some]
      split <;> rfl
    · rw [if_neg h1, if_neg h1]
theorem tab_l0 (r : List Int) (s : List (List Int)) (hr : r.length < 4611686018427387904) (hs : s.length < 4611686018427387904) : ∀ (m k : Nat) (i : Int), 0 ≤ i → i + m = (s.length : Int) → m + r.length + 1 < k → table_Check.l0 k r.length s s.length i = some (selR r.length s m i) := by
  intro m
  induction m with
  | zero =>
    intro k i h0 hi hk
    obtain ⟨k, rfl⟩ : ∃ k', k = k' + 1 := ⟨k - 1, by omega⟩
    unfold table_Check.l0
    rw [if_neg (by omega)]; rfl
  | succ m ih =>
    intro k i h0 hi hk
    obtain ⟨k, rfl⟩ : ∃ k', k = k' + 1 := ⟨k - 1, by omega⟩
    unfold table_Check.l0
    rw [if_pos (by omega), if_pos h0, if_pos (by omega), w64 (by omega) (by omega), w64 (n := i + 1) (by omega) (by omega), ih k (i + 1) (by omega) (by omega) (by omega)]
    simp only [selR]
    by_cases h1 : ((rd_L1 s i).length : Int) = (r.length : Int) - i
    · rw [if_pos h1, if_pos h1, falling_f _ (by omega) k (by omega), Option.bind_some]
      split <;> rfl
    · rw [if_neg h1, if_neg h1]
theorem ref_Check (x : ByteArray) (first : Int) (r : List Int) (s : List (List Int)) (hx : x.size < 4611686018427387904) (hr : r.length < 4611686018427387904) (hs : s.length < 4611686018427387904) (k : Nat) (hk : x.size + r.length + s.length + 4 < k) :
    tontineref09_Check.f k x first r s = some (checkV x first r s) := by
  obtain ⟨k, rfl⟩ : ∃ k', k = k' + 2 := ⟨k - 2, by omega⟩
  unfold tontineref09_Check.f checkV
  rw [Name_f x hx _ (by omega), Option.bind_some]
  by_cases h0 : nameB x = true
  rotate_left
  · rw [if_neg h0, if_neg h0]
  rw [if_pos h0, if_pos h0]
  have hj : tontineref09_Check.j0 (k + 2) true x first r s = some 8 := by simp only [tontineref09_Check.j0, if_true]
  by_cases h1 : first < 0
  · rw [if_pos h1, if_pos (by omega), hj]
  rw [if_neg h1]
  by_cases h2 : first > 130
  · rw [if_pos h2, if_pos (by omega), hj]
  rw [if_neg h2]
  by_cases h3 : (r.length : Int) < 1
  · rw [if_pos h3, if_pos (by omega), hj]
  rw [if_neg h3, w64 (by omega) (by omega)]
  by_cases h4 : (r.length : Int) > 131 - first
  · rw [decide_eq_true h4, if_pos (by omega), hj]
  rw [decide_eq_false h4, if_neg (by omega)]
  simp only [tontineref09_Check.j0, Bool.false_eq_true, if_false]
  rw [row_f _ hr _ (by omega), Option.bind_some]
  have hj1 : tontineref09_Check.j1 (k + 1) true x first r s = some 90 := by simp only [tontineref09_Check.j1, if_true]
  by_cases h5 : rowB r = true
  rotate_left
  · rw [if_neg h5, if_neg h5, hj1]
  rw [if_pos h5, if_pos h5]
  by_cases h6 : (s.length : Int) > 10
  · rw [if_pos h6, if_pos (by omega), hj1]
  rw [if_neg h6]
  by_cases h7 : (s.length : Int) > (r.length : Int)
  · rw [decide_eq_true h7, if_pos (by omega), hj1]
  rw [decide_eq_false h7, if_neg (by omega)]
  simp only [tontineref09_Check.j1, Bool.false_eq_true, if_false]
  rw [ref_l0 x first r s hr hs s.length k 0 (by omega) (by omega) (by omega)]
theorem tab_Check (x : ByteArray) (first : Int) (r : List Int) (s : List (List Int)) (hx : x.size < 4611686018427387904) (hr : r.length < 4611686018427387904) (hs : s.length < 4611686018427387904) (k : Nat) (hk : x.size + r.length + s.length + 4 < k) :
    table_Check.f k x first r s = some (checkV x first r s) := by
  obtain ⟨k, rfl⟩ : ∃ k', k = k' + 1 := ⟨k - 1, by omega⟩
  unfold table_Check.f checkV
  rw [named_f x hx _ (by omega), Option.bind_some]
  by_cases h0 : nameB x = true
  rotate_left
  · rw [if_neg h0, if_neg h0]
  rw [if_pos h0, if_pos h0]
  have hj : table_Check.j0 (k + 1) r.length true x first r s = some 8 := by simp only [table_Check.j0, if_true]
  by_cases h1 : first < 0
  · rw [if_pos h1, if_pos (by omega), hj]
  rw [if_neg h1]
  by_cases h2 : first > 130
  · rw [if_pos h2, if_pos (by omega), hj]
  rw [if_neg h2]
  by_cases h3 : (r.length : Int) = 0
  · rw [if_pos h3, if_pos (by omega), hj]
  rw [if_neg h3, w64 (by omega) (by omega)]
  by_cases h4 : (r.length : Int) > 131 - first
  · rw [decide_eq_true h4, if_pos (by omega), hj]
  rw [decide_eq_false h4, if_neg (by omega)]
  simp only [table_Check.j0, Bool.false_eq_true, if_false]
  rw [falling_f _ hr _ (by omega), Option.bind_some]
  by_cases h5 : rowB r = true
  rotate_left
  · rw [if_neg h5, if_neg h5]
  rw [if_pos h5, if_pos h5]
  by_cases h6 : (s.length : Int) > 10
  · rw [if_pos h6, if_pos (by omega)]
  rw [if_neg h6]
  by_cases h7 : (s.length : Int) > (r.length : Int)
  · rw [if_pos h7, if_pos (by omega)]
  rw [if_neg h7, if_neg (by omega)]
  rw [tab_l0 r s hr hs s.length k 0 (by omega) (by omega) (by omega)]

def basisV (c rate : Int) : Int := if c = 0 then if rate < 0 then 1 else if rate > 100000000 then 1 else 0 else c
theorem ref_Basis (x : ByteArray) (first : Int) (r : List Int) (s : List (List Int)) (rate : Int) (k : Nat) (h : tontineref09_Check.f k x first r s = some (checkV x first r s)) : tontineref09_Basis.f k x first r s rate = some (basisV (checkV x first r s) rate) := by
  unfold tontineref09_Basis.f basisV
  rw [h, Option.bind_some]
  split
  · split
    · rfl
    · split
      · rfl
      · simp_all
  · rfl
theorem tab_Basis (x : ByteArray) (first : Int) (r : List Int) (s : List (List Int)) (rate : Int) (k : Nat) (h : table_Check.f k x first r s = some (checkV x first r s)) : table_Basis.f k x first r s rate = some (basisV (checkV x first r s) rate) := by
  unfold table_Basis.f basisV
  rw [h, Option.bind_some]
  split
  · split
    · rfl
    · split <;> rfl
  · rfl
def lastV (first : Int) (r : List Int) : Int := wrap64 (wrap64 (first + (r.length : Int)) - 1)
theorem tab_Last (x : ByteArray) (first : Int) (r : List Int) (s : List (List Int)) (k : Nat) (h : table_Check.f k x first r s = some (checkV x first r s)) : table_Last.f k x first r s = some (if checkV x first r s = 0 then lastV first r else 0, checkV x first r s) := by
  unfold table_Last.f table_last.f lastV
  rw [h, Option.bind_some]
  split
  · simp_all
  · rfl
theorem sameInts_l0 (l : List Int) (hl : l.length < 4611686018427387904) : ∀ (m k : Nat) (i : Int), 0 ≤ i → i + m = (l.length : Int) → m < k → tontinebook_SameInts.l0 k l l i = some true := by
  intro m
  induction m with
  | zero =>
    intro k i h0 hi hk
    obtain ⟨k, rfl⟩ : ∃ k', k = k' + 1 := ⟨k - 1, by omega⟩
    unfold tontinebook_SameInts.l0
    rw [if_neg (by omega)]
  | succ m ih =>
    intro k i h0 hi hk
    obtain ⟨k, rfl⟩ : ∃ k', k = k' + 1 := ⟨k - 1, by omega⟩
    unfold tontinebook_SameInts.l0
    rw [if_pos (by omega), if_pos h0, if_pos (by omega), if_pos rfl, w64 (by omega) (by omega), ih k (i + 1) (by omega) (by omega) (by omega)]
theorem sameInts_f (l : List Int) (hl : l.length < 4611686018427387904) (k : Nat) (hk : l.length < k) : tontinebook_SameInts.f k l l = some true := by
  unfold tontinebook_SameInts.f
  rw [if_pos rfl, sameInts_l0 l hl l.length k 0 (by omega) (by omega) hk]
theorem same_l0 (x : ByteArray) (first : Int) (r : List Int) (s : List (List Int)) (hs : s.length < 4611686018427387904) (B : Nat) (hB : ∀ l ∈ s, l.length ≤ B) (hB2 : B < 4611686018427387904) :
    ∀ (m k : Nat) (i : Int), 0 ≤ i → i + m = (s.length : Int) → m + B + 1 < k → tontinebook_SameTable.l0 k i x first r s x first r s = some true := by
  intro m
  induction m with
  | zero =>
    intro k i h0 hi hk
    obtain ⟨k, rfl⟩ : ∃ k', k = k' + 1 := ⟨k - 1, by omega⟩
    unfold tontinebook_SameTable.l0
    rw [if_neg (by omega)]
  | succ m ih =>
    intro k i h0 hi hk
    obtain ⟨k, rfl⟩ : ∃ k', k = k' + 1 := ⟨k - 1, by omega⟩
    unfold tontinebook_SameTable.l0
    have hlen : (rd_L1 s i).length ≤ B := by
      unfold rd_L1
      rw [List.getD_eq_getElem?_getD, List.getElem?_eq_getElem (by omega), Option.getD_some]
      exact hB _ (List.getElem_mem _)
    rw [if_pos (by omega), if_pos h0, if_pos (by omega), sameInts_f _ (by omega) k (by omega), Option.bind_some, if_pos rfl, w64 (by omega) (by omega), ih k (i + 1) (by omega) (by omega) (by omega)]
theorem same_f (x : ByteArray) (first : Int) (r : List Int) (s : List (List Int)) (hr : r.length < 4611686018427387904) (hs : s.length < 4611686018427387904) (B : Nat) (hB : ∀ l ∈ s, l.length ≤ B) (hB2 : B < 4611686018427387904) (k : Nat) (hk : r.length + s.length + B + 4 < k) :
    tontinebook_SameTable.f k x first r s x first r s = some true := by
  obtain ⟨k, rfl⟩ : ∃ k', k = k' + 1 := ⟨k - 1, by omega⟩
  unfold tontinebook_SameTable.f
  rw [if_pos rfl, if_pos rfl, sameInts_f _ hr _ (by omega), Option.bind_some, if_pos rfl]
  simp only [tontinebook_SameTable.j0, bne_self_eq_false, Bool.false_eq_true, if_false]
  rw [same_l0 x first r s hs B hB hB2 s.length k 0 (by omega) (by omega) (by omega)]
theorem copy_l0 (x : ByteArray) (first : Int) (r r2 : List Int) (s : List (List Int)) (hs : s.length < 5864062014805) (hB : ∀ l ∈ s, l.length < 17592186044416) :
    ∀ (m k : Nat) (i : Int), 0 ≤ i → i + m = (s.length : Int) → m < k → tontinebook_CopyTable.l0 k i x first r s x first r2 (s.take i.toNat) = some (x, first, r2, s) := by
  intro m
  induction m with
  | zero =>
    intro k i h0 hi hk
    obtain ⟨k, rfl⟩ : ∃ k', k = k' + 1 := ⟨k - 1, by omega⟩
    unfold tontinebook_CopyTable.l0
    rw [if_neg (by omega), List.take_of_length_le (by omega)]
  | succ m ih =>
    intro k i h0 hi hk
    obtain ⟨k, rfl⟩ : ∃ k', k = k' + 1 := ⟨k - 1, by omega⟩
    unfold tontinebook_CopyTable.l0
    have hlt : i.toNat < s.length := by omega
    have e : rd_L1 s i = s[i.toNat] := by
      unfold rd_L1
      rw [List.getD_eq_getElem?_getD, List.getElem?_eq_getElem hlt, Option.getD_some]
    have hlen : (rd_L1 s i).length < 17592186044416 := by
      rw [e]
      exact hB _ (List.getElem_mem _)
    rw [if_pos (by omega), Option.bind_some, if_pos h0, if_pos (by simpa using hlen), if_pos (by rw [List.length_take]; omega), w64 (by omega) (by omega), e, List.nil_append]
    have e2 : s.take i.toNat ++ [s[i.toNat]] = s.take (i + 1).toNat := by
      rw [show (i + 1).toNat = i.toNat + 1 by omega, List.take_succ_eq_append_getElem hlt]
    rw [e2, ih k (i + 1) (by omega) (by omega) (by omega)]
theorem copy_f (x : ByteArray) (first : Int) (r : List Int) (s : List (List Int)) (hr : r.length < 17592186044416) (hs : s.length < 5864062014805) (hB : ∀ l ∈ s, l.length < 17592186044416) (k : Nat) (hk : s.length < k) :
    tontinebook_CopyTable.f k x first r s = some (x, first, r, s) := by
  unfold tontinebook_CopyTable.f
  rw [Option.bind_some, if_pos (by simpa using hr), List.nil_append]
  have := copy_l0 x first r r s hs hB s.length k 0 (by omega) (by omega) hk
  simpa using this
end Go.Proofs.Ytbibkhpfemphhaa.TcPlain
