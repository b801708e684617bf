/- The walk of TableChecks over the printed contracts. Conditions: the lengths are below 2^40. -/
import Derived.Test.YtbibkhpfemphhaaTcPlain
import Derived.Lib.SmallJoins
namespace Go.Proofs.Ytbibkhpfemphhaa.TcWalk
open Go.RowKit Go.Proofs.YtbibkhpfemphhaaW.PrintWords Go.Proofs.YtbibkhpfemphhaaW.PrintLast Go.Proofs.YtbibkhpfemphhaaW.PrintMore
open Go.Proofs.Ytbibkhpfemphhaa.PTableChecks Go.Proofs.Ytbibkhpfemphhaa.TcPlain

theorem hide {p : Prop} (h : p) : Hid p := h

/-- What the call has laid: five cells of the block g; what was there stays. -/
abbrev Five (w0 : World) (g : Nat) (v0 v1 v2 v3 v4 : Value) (w : World) : Prop :=
  w.cell? ⟨g, 0, none⟩ = some v0 ∧ w.cell? ⟨g, 1, none⟩ = some v1 ∧ w.cell? ⟨g, 2, none⟩ = some v2 ∧ w.cell? ⟨g, 3, none⟩ = some v3 ∧ w.cell? ⟨g, 4, none⟩ = some v4 ∧ Below w0.heap.size w0 w
section
variable {w0 w w' : World} {g : Nat} {v0 v1 v2 v3 v4 : Value}
theorem Five.keep (h : Five w0 g v0 v1 v2 v3 v4 w) (hb : Below w.heap.size w w') : Five w0 g v0 v1 v2 v3 v4 w' := by
  obtain ⟨h0, h1, h2, h3, h4, h5⟩ := h
  have k : ∀ {a : Addr} {v : Value}, w.cell? a = some v → w'.cell? a = some v := fun ha => (hb.cell (World.block_lt_of_cell? w _ ha)).trans ha
  exact ⟨k h0, k h1, k h2, k h3, k h4, h5.trans (hb.mono h5.size)⟩
theorem Five.drew (h : Five w0 g v0 v1 v2 v3 v4 w) : Five w0 g v0 v1 v2 v3 v4 w.drew := h.keep (below_drew (Below.refl _ _))
theorem Five.lt (h : Five w0 g v0 v1 v2 v3 v4 w) : g < w.heap.size := World.block_lt_of_cell? w _ h.1
theorem Five.set (h : Five w0 w0.heap.size v0 v1 v2 v3 v4 w) (p : Addr) (v : Value) (hp : w0.heap.size < p.block) : Five w0 w0.heap.size v0 v1 v2 v3 v4 (w.setCell p v) := by
  obtain ⟨h0, h1, h2, h3, h4, h5⟩ := h
  have k : ∀ i, (w.setCell p v).cell? ⟨w0.heap.size, i, none⟩ = w.cell? ⟨w0.heap.size, i, none⟩ := fun i => by
    have := Below.heap_setCell w p v w0.heap.size (Nat.ne_of_lt hp)
    simp only [World.cell?, this]
  exact ⟨(k 0).trans h0, (k 1).trans h1, (k 2).trans h2, (k 3).trans h3, (k 4).trans h4, h5.setCell (Nat.le_of_lt hp) v⟩
theorem Five.alloc (h : Five w0 g v0 v1 v2 v3 v4 w) (o : Obj) : Five w0 g v0 v1 v2 v3 v4 (w.alloc o) := h.keep (below_alloc (Below.refl _ _) o)
theorem fresh (w1 w3 : World) (C : Array Value) (hb : Below (w1.alloc (.cells C 27)).drew.heap.size (w1.alloc (.cells C 27)).drew w3) : w3.heap[w1.heap.size]? = some (.cells C 27 (0, 0)) := by
  refine (hb.block _ (by simp)).trans ?_
  show (w1.heap.push (.cells C 27))[w1.heap.size]? = _
  simp
theorem fresh_cell (w1 w3 : World) (C : Array Value) (hb : Below (w1.alloc (.cells C 27)).drew.heap.size (w1.alloc (.cells C 27)).drew w3) (i : Nat) (v : Value) (h : C[i]? = some v) : w3.cell? ⟨w1.heap.size, i, none⟩ = some v ∧ w3.frozen? ⟨w1.heap.size, i, none⟩ = false :=
  ⟨(Joins.cell_of_block (fresh w1 w3 C hb) i).trans h, Joins.unfrozen_of_block (fresh w1 w3 C hb) i⟩
theorem far {α : Type} {d : Kd α} {e W : _} {base : Nat} {ok : Nat → Prop} {v : Value} {xs : List α} (h : d.R e W base ok v xs) (p : Addr) (u : Value) (hp : p.block < base) : d.R e (W.setCell p u) base ok v xs :=
  Kd.R_mono (Kd.R_far (Kd.R_bound h) (fun k hk => by have := hk.2.1; omega) u) (fun k hk => hk.1)
theorem blk5 {w : World} {g : Nat} {a0 a1 a2 a3 a4 : Value} (h : w.heap[g]? = some (.cells #[a0, a1, a2, a3, a4] 27 (0, 0))) (v0 v1 v2 v3 v4 : Value) :
    (((((w.setCell ⟨g, 0, none⟩ v0).setCell ⟨g, 1, none⟩ v1).setCell ⟨g, 2, none⟩ v2).setCell ⟨g, 3, none⟩ v3).setCell ⟨g, 4, none⟩ v4).heap[g]? = some (.cells #[v0, v1, v2, v3, v4] 27 (0, 0)) :=
  Joins.block_setCell (Joins.block_setCell (Joins.block_setCell (Joins.block_setCell (Joins.block_setCell h v0) v1) v2) v3) v4
/-- What stands behind the copy: the argument's cells, the copy's block, the copy's rows. -/
structure Ten (w0 : World) (v0 v1 v2 v3 v4 u0 u1 u2 u3 u4 : Value) (g : Nat) (A4 A5 : Option Addr) (r : List Int) (s : List (List Int)) (w : World) : Prop where
  five : Five w0 w0.heap.size v0 v1 v2 v3 v4 w
  blk : w.heap[g]? = some (.cells #[u0, u1, u2, u3, u4] 27 (0, 0))
  rates : Kd.C (Kd.int .i64) w A4 r.length r
  sel : Kd.C (Kd.slice 3 (Kd.int .i64)) w A5 s.length s
abbrev Cells (g1 g2 : Nat) (v0 v1 v2 v3 v4 u0 u1 u2 u3 u4 : Value) (w : World) : Prop :=
  w.cell? ⟨g1, 0, none⟩ = some v0 ∧ w.cell? ⟨g1, 1, none⟩ = some v1 ∧ w.cell? ⟨g1, 2, none⟩ = some v2 ∧ w.cell? ⟨g1, 3, none⟩ = some v3 ∧ w.cell? ⟨g1, 4, none⟩ = some v4 ∧
  w.cell? ⟨g2, 0, none⟩ = some u0 ∧ w.cell? ⟨g2, 1, none⟩ = some u1 ∧ w.cell? ⟨g2, 2, none⟩ = some u2 ∧ w.cell? ⟨g2, 3, none⟩ = some u3 ∧ w.cell? ⟨g2, 4, none⟩ = some u4
section
variable {w0 w w' : World} {v0 v1 v2 v3 v4 u0 u1 u2 u3 u4 : Value} {g : Nat} {A4 A5 : Option Addr} {r : List Int} {s : List (List Int)}
theorem Ten.keep (h : Ten w0 v0 v1 v2 v3 v4 u0 u1 u2 u3 u4 g A4 A5 r s w) (hb : Below w.heap.size w w') : Ten w0 v0 v1 v2 v3 v4 u0 u1 u2 u3 u4 g A4 A5 r s w' :=
  ⟨h.five.keep hb, (hb.block _ (by
    rcases Nat.lt_or_ge g w.heap.size with h' | h'
    · exact h'
    · have := h.blk; rw [Array.getElem?_eq_none h'] at this; cases this)).trans h.blk, Kd.C_below h.rates hb, Kd.C_below h.sel hb⟩
theorem Ten.cells (h : Ten w0 v0 v1 v2 v3 v4 u0 u1 u2 u3 u4 g A4 A5 r s w) : Cells w0.heap.size g v0 v1 v2 v3 v4 u0 u1 u2 u3 u4 w := by
  obtain ⟨h0, h1, h2, h3, h4, _⟩ := h.five
  exact ⟨h0, h1, h2, h3, h4, (Joins.cell_of_block h.blk 0), (Joins.cell_of_block h.blk 1), (Joins.cell_of_block h.blk 2), (Joins.cell_of_block h.blk 3), (Joins.cell_of_block h.blk 4)⟩
theorem Ten.below (h : Ten w0 v0 v1 v2 v3 v4 u0 u1 u2 u3 u4 g A4 A5 r s w) : Below w0.heap.size w0 w := h.five.2.2.2.2.2
end
end

set_option maxHeartbeats 4000000 in
set_option maxRecDepth 100000 in
theorem walk (x : ByteArray) (first : Int) (A2 A3 : Option Addr) (c2 c3 : Nat) (r : List Int) (s : List (List Int)) (rate : Int) (w : World)
    (hr : Kd.C (Kd.int .i64) w A2 r.length r) (hc2 : r.length ≤ c2) (hs : Kd.C (Kd.slice 3 (Kd.int .i64)) w A3 s.length s) (hc3 : s.length ≤ c3)
    (hx : x.size ≤ 1048576) (hrl : r.length ≤ 1048576) (hsl : s.length ≤ 1048576) (hB : ∀ l ∈ s, l.length ≤ 1048576) :
    Calls Try.prog 3 #[.agg #[.string x, .int .i64 first, .slice A2 r.length c2, .slice A3 s.length c3, .int .i64 rate]] w fun e w' => e = .returned (.bool true) ∧ Below w.heap.size w w' := by
  have HR := hide hr; have HS := hide hs; have HC2 := hide hc2; have HC3 := hide hc3
  clear hr hs hc2 hc3
  have L1 := ref_Check x first r s (by omega) (by omega) (by omega) (x.size + r.length + s.length + 5) (by omega)
  have L2 := tab_Check x first r s (by omega) (by omega) (by omega) (x.size + r.length + s.length + 5) (by omega)
  have HV6 := hide (same_f x first r s (by omega) (by omega) 1048576 hB (by omega) (r.length + s.length + 1048586) (by omega))
  have HV4 := hide (tab_Basis x first r s rate _ L2)
  have HV5 := hide (ref_Basis x first r s rate _ L1)
  have HV1 := hide L1
  have HV2 := hide (tab_Last x first r s _ L2)
  have HV3 := hide L2
  clear L1 L2
  generalize checkV x first r s = V at HV1 HV2 HV3 HV4 HV5
  obtain ⟨N, hN⟩ : ∃ N, N = if V = 0 then lastV first r else 0 := ⟨_, rfl⟩
  rw [← hN] at HV2
  have HN := hide hN
  clear hN
  go_enter Try.func3, Try.ntmps3
  go_wp2_with fail
  refine (tontinelaw09_names.calls true _ rfl).mono ?_
  rintro e w' ⟨rfl, ⟨⟨n, rfl⟩⟩⟩
  obtain ⟨w1, hw1⟩ : ∃ w1, w1 = (w.alloc (.cells #[.string x, .int .i64 first, .slice A2 r.length c2, .slice A3 s.length c3, .int .i64 rate] 27)).drewN n := ⟨_, rfl⟩
  have q0 : w1.cell? ⟨w.heap.size, 0, none⟩ = some (.string x) := by rw [hw1]; exact Joins.cell_alloc_mark_at w _ _ _ _ 0 rfl
  have q1 : w1.cell? ⟨w.heap.size, 1, none⟩ = some (.int .i64 first) := by rw [hw1]; exact Joins.cell_alloc_mark_at w _ _ _ _ 1 rfl
  have q2 : w1.cell? ⟨w.heap.size, 2, none⟩ = some (.slice A2 r.length c2) := by rw [hw1]; exact Joins.cell_alloc_mark_at w _ _ _ _ 2 rfl
  have q3 : w1.cell? ⟨w.heap.size, 3, none⟩ = some (.slice A3 s.length c3) := by rw [hw1]; exact Joins.cell_alloc_mark_at w _ _ _ _ 3 rfl
  have q4 : w1.cell? ⟨w.heap.size, 4, none⟩ = some (.int .i64 rate) := by rw [hw1]; exact Joins.cell_alloc_mark_at w _ _ _ _ 4 rfl
  have hb1 : Below w.heap.size w w1 := by rw [hw1]; exact pw_below_drewN (below_alloc (Below.refl _ _) _) n
  have hz1 : w1.heap.size = w.heap.size + 1 := by rw [hw1]; simp
  have five : Five w w.heap.size (.string x) (.int .i64 first) (.slice A2 r.length c2) (.slice A3 s.length c3) (.int .i64 rate) w1 := ⟨q0, q1, q2, q3, q4, hb1⟩
  have HZ1 := hide hz1
  clear q0 q1 q2 q3 q4 hz1
  go_wp2_with fail
  rw [← hw1]
  clear hw1
  have HCOPY := fun (w' : World) (hb : Below w.heap.size w w') => tontinebook_CopyTable.calls (s.length + 1) x first A2 c2 r A3 c3 s x first r s w' (Kd.C_below HR.out hb) HC2.out (Kd.C_below HS.out hb) HC3.out (copy_f x first r s (by omega) (by omega) (fun l hl => by have := hB l hl; omega) _ (by omega))
  go_region_held3 (fun w' => w'.cell? ⟨w.heap.size, 0, none⟩ = some (.string x) ∧ w'.cell? ⟨w.heap.size, 1, none⟩ = some (.int .i64 first) ∧ w'.cell? ⟨w.heap.size, 2, none⟩ = some (.slice A2 r.length c2) ∧ w'.cell? ⟨w.heap.size, 3, none⟩ = some (.slice A3 s.length c3) ∧ w'.cell? ⟨w.heap.size, 4, none⟩ = some (.int .i64 rate) ∧ Below w.heap.size w w') (first | with_reducible exact five.drew | (with_reducible refine Hid.out ?_; with_reducible assumption) | (with_reducible refine Five.alloc ?_ _; with_reducible assumption) | (with_reducible refine Five.alloc ?_ _; with_reducible refine Hid.out ?_; with_reducible assumption) | with_reducible exact (five.alloc _).drew | (with_reducible refine Five.set (Five.set (Five.set (Five.set (Five.set ?_ _ _ ?_) _ _ ?_) _ _ ?_) _ _ ?_) _ _ ?_ <;> first | with_reducible assumption | (have := HZ1.out; simp; omega)))
    (first | (go_at_call 7; refine (HCOPY _ (by go_split_ands; assumption)).mono ?_; rintro e w3 ⟨v2, v3, rfl, hv2, hv3, hb3⟩; obtain ⟨A4, c4, rfl, hc4, hr4⟩ := Kd.R_reads hv2; obtain ⟨A5, c5, rfl, hc5, hr5⟩ := Kd.S_reads hv3; have HR4 := hide hv2; have HR5 := hide (Kd.S_R hv3); have HC4 := hide hc4; have HC5 := hide hc5; clear hv2 hv3 hr4 hr5 hc4 hc5; have k3' := Five.lt (g := w.heap.size) (Five.keep (w0 := w) (g := w.heap.size) (v0 := .string x) (v1 := .int .i64 first) (v2 := .slice A2 r.length c2) (v3 := .slice A3 s.length c3) (v4 := .int .i64 rate) (by assumption) hb3); have k3 := hide (Five.keep (w0 := w) (g := w.heap.size) (v0 := .string x) (v1 := .int .i64 first) (v2 := .slice A2 r.length c2) (v3 := .slice A3 s.length c3) (v4 := .int .i64 rate) (by assumption) hb3); obtain ⟨F0, G0⟩ := fresh_cell w1 w3 _ hb3 0 _ rfl; obtain ⟨F1, G1⟩ := fresh_cell w1 w3 _ hb3 1 _ rfl; obtain ⟨F2, G2⟩ := fresh_cell w1 w3 _ hb3 2 _ rfl; obtain ⟨F3, G3⟩ := fresh_cell w1 w3 _ hb3 3 _ rfl; obtain ⟨F4, G4⟩ := fresh_cell w1 w3 _ hb3 4 _ rfl; have HF := hide (fresh w1 w3 _ hb3); clear hb3) | (go_at_call 7; refine (HCOPY _ (by go_split_ands; assumption)).mono ?_; rintro e w3 ⟨v2, v3, rfl, hv2, hv3, hb3⟩; obtain ⟨A4, c4, rfl, hc4, hr4⟩ := Kd.R_reads hv2; obtain ⟨A5, c5, rfl, hc5, hr5⟩ := Kd.S_reads hv3; have HR4 := hide hv2; have HR5 := hide (Kd.S_R hv3); have HC4 := hide hc4; have HC5 := hide hc5; clear hv2 hv3 hr4 hr5 hc4 hc5; have k3' := Five.lt (g := w.heap.size) (Five.keep (w0 := w) (g := w.heap.size) (v0 := .string x) (v1 := .int .i64 first) (v2 := .slice A2 r.length c2) (v3 := .slice A3 s.length c3) (v4 := .int .i64 rate) (by assumption) hb3); have k3 := hide (Five.keep (w0 := w) (g := w.heap.size) (v0 := .string x) (v1 := .int .i64 first) (v2 := .slice A2 r.length c2) (v3 := .slice A3 s.length c3) (v4 := .int .i64 rate) (by assumption) hb3)))
  · have TEN : Ten w (.string x) (.int .i64 first) (.slice A2 r.length c2) (.slice A3 s.length c3) (.int .i64 rate) (.string x) (.int .i64 first) (.slice A4 r.length c4) (.slice A5 s.length c5) (.int .i64 rate) w3.heap.size A4 A5 r s (w3.alloc (.cells #[.string x, .int .i64 first, .slice A4 r.length c4, .slice A5 s.length c5, .int .i64 rate] 27)) :=
      ⟨Five.alloc k3.out _, by show (w3.heap.push _)[w3.heap.size]? = _; simp, Kd.C_alloc (Kd.R_reads' HR4.out).2.2 _, Kd.C_alloc (Kd.R_reads' HR5.out).2.2 _⟩
    have TN := hide TEN
    clear TEN HR4 HR5 k3 k3'
    generalize (w3.alloc (.cells #[.string x, .int .i64 first, .slice A4 r.length c4, .slice A5 s.length c5, .int .i64 rate] 27)) = w5 at TN ⊢
    generalize w3.heap.size = g2 at TN ⊢
    obtain ⟨q0, q1, q2, q3, q4, q5, q6, q7, q8, q9⟩ := TN.out.cells
    go_wp2_with fail
    refine (tontineref09_Check.calls (x.size + r.length + s.length + 5) x first A2 c2 r A3 c3 s V w5 (Kd.C_below HR.out TN.out.below) HC2.out (Kd.C_below HS.out TN.out.below) HC3.out HV1.out).mono ?_
    rintro e w6 ⟨rfl, hb6⟩
    have T6 := hide (TN.out.keep hb6)
    clear q0 q1 q2 q3 q4 q5 q6 q7 q8 q9 hb6 TN
    obtain ⟨q0, q1, q2, q3, q4, q5, q6, q7, q8, q9⟩ := T6.out.cells
    go_wp2_with fail
    refine (table_Last.calls (x.size + r.length + s.length + 5) x first A4 c4 r A5 c5 s N V w6 T6.out.rates HC4.out T6.out.sel HC5.out HV2.out).mono ?_
    rintro e w7 ⟨rfl, hb7⟩
    have T7 := hide (T6.out.keep hb7)
    clear q0 q1 q2 q3 q4 q5 q6 q7 q8 q9 hb7 T6 w6
    go_wp2_with fail
    have K3 := hide (fun (w' : World) (T : Hid (Ten w (.string x) (.int .i64 first) (.slice A2 r.length c2) (.slice A3 s.length c3) (.int .i64 rate) (.string x) (.int .i64 first) (.slice A4 r.length c4) (.slice A5 s.length c5) (.int .i64 rate) g2 A4 A5 r s w')) => (table_Check.calls (x.size + r.length + s.length + 5) x first A4 c4 r A5 c5 s V w' T.out.rates HC4.out T.out.sel HC5.out HV3.out).mono (fun e w8 h => (⟨h.1, hide (T.out.keep h.2)⟩ : e = .returned (.int .i64 V) ∧ Hid (Ten w (.string x) (.int .i64 first) (.slice A2 r.length c2) (.slice A3 s.length c3) (.int .i64 rate) (.string x) (.int .i64 first) (.slice A4 r.length c4) (.slice A5 s.length c5) (.int .i64 rate) g2 A4 A5 r s w8))))
    have K4 := hide (fun (w' : World) (T : Hid (Ten w (.string x) (.int .i64 first) (.slice A2 r.length c2) (.slice A3 s.length c3) (.int .i64 rate) (.string x) (.int .i64 first) (.slice A4 r.length c4) (.slice A5 s.length c5) (.int .i64 rate) g2 A4 A5 r s w')) => (table_Basis.calls (x.size + r.length + s.length + 5) x first A4 c4 r A5 c5 s rate (basisV V rate) w' T.out.rates HC4.out T.out.sel HC5.out HV4.out).mono (fun e w8 h => (⟨h.1, hide (T.out.keep h.2)⟩ : e = .returned (.int .i64 (basisV V rate)) ∧ Hid (Ten w (.string x) (.int .i64 first) (.slice A2 r.length c2) (.slice A3 s.length c3) (.int .i64 rate) (.string x) (.int .i64 first) (.slice A4 r.length c4) (.slice A5 s.length c5) (.int .i64 rate) g2 A4 A5 r s w8))))
    have K5 := hide (fun (w' : World) (T : Hid (Ten w (.string x) (.int .i64 first) (.slice A2 r.length c2) (.slice A3 s.length c3) (.int .i64 rate) (.string x) (.int .i64 first) (.slice A4 r.length c4) (.slice A5 s.length c5) (.int .i64 rate) g2 A4 A5 r s w')) => (tontineref09_Basis.calls (x.size + r.length + s.length + 5) x first A2 c2 r A3 c3 s rate (basisV V rate) w' (Kd.C_below HR.out T.out.below) HC2.out (Kd.C_below HS.out T.out.below) HC3.out HV5.out).mono (fun e w8 h => (⟨h.1, hide (T.out.keep h.2)⟩ : e = .returned (.int .i64 (basisV V rate)) ∧ Hid (Ten w (.string x) (.int .i64 first) (.slice A2 r.length c2) (.slice A3 s.length c3) (.int .i64 rate) (.string x) (.int .i64 first) (.slice A4 r.length c4) (.slice A5 s.length c5) (.int .i64 rate) g2 A4 A5 r s w8))))
    have K6 := hide (fun (w' : World) (T : Hid (Ten w (.string x) (.int .i64 first) (.slice A2 r.length c2) (.slice A3 s.length c3) (.int .i64 rate) (.string x) (.int .i64 first) (.slice A4 r.length c4) (.slice A5 s.length c5) (.int .i64 rate) g2 A4 A5 r s w')) => (tontinebook_SameTable.calls (r.length + s.length + 1048586) x first A4 c4 r A5 c5 s x first A2 c2 r A3 c3 s true w' T.out.rates HC4.out T.out.sel HC5.out (Kd.C_below HR.out T.out.below) HC2.out (Kd.C_below HS.out T.out.below) HC3.out HV6.out).mono (fun e w8 h => (⟨h.1, hide (T.out.keep h.2)⟩ : e = .returned (.bool true) ∧ Hid (Ten w (.string x) (.int .i64 first) (.slice A2 r.length c2) (.slice A3 s.length c3) (.int .i64 rate) (.string x) (.int .i64 first) (.slice A4 r.length c4) (.slice A5 s.length c5) (.int .i64 rate) g2 A4 A5 r s w8))))
    have held : ∀ w', Hid (Ten w (.string x) (.int .i64 first) (.slice A2 r.length c2) (.slice A3 s.length c3) (.int .i64 rate) (.string x) (.int .i64 first) (.slice A4 r.length c4) (.slice A5 s.length c5) (.int .i64 rate) g2 A4 A5 r s w') → w'.cell? ⟨w.heap.size, 0, none⟩ = some (.string x) ∧ w'.cell? ⟨w.heap.size, 1, none⟩ = some (.int .i64 first) ∧ w'.cell? ⟨w.heap.size, 2, none⟩ = some (.slice A2 r.length c2) ∧ w'.cell? ⟨w.heap.size, 3, none⟩ = some (.slice A3 s.length c3) ∧ w'.cell? ⟨w.heap.size, 4, none⟩ = some (.int .i64 rate) ∧ w'.cell? ⟨g2, 0, none⟩ = some (.string x) ∧ w'.cell? ⟨g2, 1, none⟩ = some (.int .i64 first) ∧ w'.cell? ⟨g2, 2, none⟩ = some (.slice A4 r.length c4) ∧ w'.cell? ⟨g2, 3, none⟩ = some (.slice A5 s.length c5) ∧ w'.cell? ⟨g2, 4, none⟩ = some (.int .i64 rate) ∧ Hid (Ten w (.string x) (.int .i64 first) (.slice A2 r.length c2) (.slice A3 s.length c3) (.int .i64 rate) (.string x) (.int .i64 first) (.slice A4 r.length c4) (.slice A5 s.length c5) (.int .i64 rate) g2 A4 A5 r s w') := fun w' T => by
      obtain ⟨q0, q1, q2, q3, q4, q5, q6, q7, q8, q9⟩ := T.out.cells
      exact ⟨q0, q1, q2, q3, q4, q5, q6, q7, q8, q9, T⟩
    have HELD := hide held
    clear held
    have T7d := hide (T7.out.keep (below_drew (Below.refl _ _)))
    generalize basisV V rate = V2 at K4 K5
    clear HV4 HV5
    go_region_held3 (fun w' => w'.cell? ⟨w.heap.size, 0, none⟩ = some (.string x) ∧ w'.cell? ⟨w.heap.size, 1, none⟩ = some (.int .i64 first) ∧ w'.cell? ⟨w.heap.size, 2, none⟩ = some (.slice A2 r.length c2) ∧ w'.cell? ⟨w.heap.size, 3, none⟩ = some (.slice A3 s.length c3) ∧ w'.cell? ⟨w.heap.size, 4, none⟩ = some (.int .i64 rate) ∧ w'.cell? ⟨g2, 0, none⟩ = some (.string x) ∧ w'.cell? ⟨g2, 1, none⟩ = some (.int .i64 first) ∧ w'.cell? ⟨g2, 2, none⟩ = some (.slice A4 r.length c4) ∧ w'.cell? ⟨g2, 3, none⟩ = some (.slice A5 s.length c5) ∧ w'.cell? ⟨g2, 4, none⟩ = some (.int .i64 rate) ∧ Hid (Ten w (.string x) (.int .i64 first) (.slice A2 r.length c2) (.slice A3 s.length c3) (.int .i64 rate) (.string x) (.int .i64 first) (.slice A4 r.length c4) (.slice A5 s.length c5) (.int .i64 rate) g2 A4 A5 r s w')) (first | with_reducible exact HELD.out _ T7d | (with_reducible refine HELD.out _ ?_; with_reducible assumption))
      (first | (go_at_call 10; refine (K3.out _ (by go_split_ands; assumption)).mono ?_; rintro e w8 ⟨rfl, k8⟩) | (go_at_call 11; refine (K4.out _ (by go_split_ands; assumption)).mono ?_; rintro e w9 ⟨rfl, k9⟩) | (go_at_call 12; refine (K5.out _ (by go_split_ands; assumption)).mono ?_; rintro e wa ⟨rfl, ka⟩) | (go_at_call 13; refine (K6.out _ (by go_split_ands; assumption)).mono ?_; rintro e wb ⟨rfl, kb⟩))
    clear K3 K4 K5 K6 HELD T7d HV6 HV3 HV2 HV1
    obtain ⟨q0, q1, q2, q3, q4, q5, q6, q7, q8, q9⟩ := kb.out.cells
    have hn := HN.out
    by_cases hV : V = 0
    · subst hV
      rw [if_pos rfl] at hn
      have HN2 := hide hn
      clear hn HN
      go_wp2_with fail
      refine (tontineref09_Last.calls x first A2 c2 r A3 c3 s N wb (Kd.C_below HR.out kb.out.below) HC2.out (Kd.C_below HS.out kb.out.below) HC3.out (by rw [HN2.out]; rfl)).mono ?_
      rintro e wc ⟨rfl, hbc⟩
      go_wp2
      go_ret
      exact ⟨by simp, (kb.out.keep hbc).below⟩
    · rw [if_neg hV] at hn
      subst hn
      go_wp2
      go_ret
      exact ⟨by simp, kb.out.below⟩
  · have TEN : Ten w (.string x) (.int .i64 first) (.slice A2 r.length c2) (.slice A3 s.length c3) (.int .i64 rate) (.string x) (.int .i64 first) (.slice A4 r.length c4) (.slice A5 s.length c5) (.int .i64 rate) w1.heap.size A4 A5 r s (((((w3.setCell ⟨w1.heap.size, 0, none⟩ (.string x)).setCell ⟨w1.heap.size, 1, none⟩ (.int .i64 first)).setCell ⟨w1.heap.size, 2, none⟩ (.slice A4 r.length c4)).setCell ⟨w1.heap.size, 3, none⟩ (.slice A5 s.length c5)).setCell ⟨w1.heap.size, 4, none⟩ (.int .i64 rate)) := by
      have hz := HZ1.out
      have hl : w1.heap.size < (w1.alloc (.cells #[.string default, .int .i64 0, .slice none 0 0, .slice none 0 0, .int .i64 0] 27)).drew.heap.size := by simp
      refine ⟨Five.set (Five.set (Five.set (Five.set (Five.set k3.out _ _ ?_) _ _ ?_) _ _ ?_) _ _ ?_) _ _ ?_, blk5 HF.out _ _ _ _ _, (Kd.R_reads' (far (far (far (far (far HR4.out _ _ hl) _ _ hl) _ _ hl) _ _ hl) _ _ hl)).2.2, (Kd.R_reads' (far (far (far (far (far HR5.out _ _ hl) _ _ hl) _ _ hl) _ _ hl) _ _ hl)).2.2⟩
      all_goals (simp; omega)
    have TN := hide TEN
    clear TEN HR4 HR5 k3 k3' F0 F1 F2 F3 F4 G0 G1 G2 G3 G4 HF
    generalize (((((w3.setCell ⟨w1.heap.size, 0, none⟩ (.string x)).setCell ⟨w1.heap.size, 1, none⟩ (.int .i64 first)).setCell ⟨w1.heap.size, 2, none⟩ (.slice A4 r.length c4)).setCell ⟨w1.heap.size, 3, none⟩ (.slice A5 s.length c5)).setCell ⟨w1.heap.size, 4, none⟩ (.int .i64 rate)) = w5 at TN ⊢
    clear HZ1 five
    generalize w1.heap.size = g2 at TN ⊢
    obtain ⟨q0, q1, q2, q3, q4, q5, q6, q7, q8, q9⟩ := TN.out.cells
    go_wp2_with fail
    refine (tontineref09_Check.calls (x.size + r.length + s.length + 5) x first A2 c2 r A3 c3 s V w5 (Kd.C_below HR.out TN.out.below) HC2.out (Kd.C_below HS.out TN.out.below) HC3.out HV1.out).mono ?_
    rintro e w6 ⟨rfl, hb6⟩
    have T6 := hide (TN.out.keep hb6)
    clear q0 q1 q2 q3 q4 q5 q6 q7 q8 q9 hb6 TN
    obtain ⟨q0, q1, q2, q3, q4, q5, q6, q7, q8, q9⟩ := T6.out.cells
    go_wp2_with fail
    refine (table_Last.calls (x.size + r.length + s.length + 5) x first A4 c4 r A5 c5 s N V w6 T6.out.rates HC4.out T6.out.sel HC5.out HV2.out).mono ?_
    rintro e w7 ⟨rfl, hb7⟩
    have T7 := hide (T6.out.keep hb7)
    clear q0 q1 q2 q3 q4 q5 q6 q7 q8 q9 hb7 T6 w6
    go_wp2_with fail
    have K3 := hide (fun (w' : World) (T : Hid (Ten w (.string x) (.int .i64 first) (.slice A2 r.length c2) (.slice A3 s.length c3) (.int .i64 rate) (.string x) (.int .i64 first) (.slice A4 r.length c4) (.slice A5 s.length c5) (.int .i64 rate) g2 A4 A5 r s w')) => (table_Check.calls (x.size + r.length + s.length + 5) x first A4 c4 r A5 c5 s V w' T.out.rates HC4.out T.out.sel HC5.out HV3.out).mono (fun e w8 h => (⟨h.1, hide (T.out.keep h.2)⟩ : e = .returned (.int .i64 V) ∧ Hid (Ten w (.string x) (.int .i64 first) (.slice A2 r.length c2) (.slice A3 s.length c3) (.int .i64 rate) (.string x) (.int .i64 first) (.slice A4 r.length c4) (.slice A5 s.length c5) (.int .i64 rate) g2 A4 A5 r s w8))))
    have K4 := hide (fun (w' : World) (T : Hid (Ten w (.string x) (.int .i64 first) (.slice A2 r.length c2) (.slice A3 s.length c3) (.int .i64 rate) (.string x) (.int .i64 first) (.slice A4 r.length c4) (.slice A5 s.length c5) (.int .i64 rate) g2 A4 A5 r s w')) => (table_Basis.calls (x.size + r.length + s.length + 5) x first A4 c4 r A5 c5 s rate (basisV V rate) w' T.out.rates HC4.out T.out.sel HC5.out HV4.out).mono (fun e w8 h => (⟨h.1, hide (T.out.keep h.2)⟩ : e = .returned (.int .i64 (basisV V rate)) ∧ Hid (Ten w (.string x) (.int .i64 first) (.slice A2 r.length c2) (.slice A3 s.length c3) (.int .i64 rate) (.string x) (.int .i64 first) (.slice A4 r.length c4) (.slice A5 s.length c5) (.int .i64 rate) g2 A4 A5 r s w8))))
    have K5 := hide (fun (w' : World) (T : Hid (Ten w (.string x) (.int .i64 first) (.slice A2 r.length c2) (.slice A3 s.length c3) (.int .i64 rate) (.string x) (.int .i64 first) (.slice A4 r.length c4) (.slice A5 s.length c5) (.int .i64 rate) g2 A4 A5 r s w')) => (tontineref09_Basis.calls (x.size + r.length + s.length + 5) x first A2 c2 r A3 c3 s rate (basisV V rate) w' (Kd.C_below HR.out T.out.below) HC2.out (Kd.C_below HS.out T.out.below) HC3.out HV5.out).mono (fun e w8 h => (⟨h.1, hide (T.out.keep h.2)⟩ : e = .returned (.int .i64 (basisV V rate)) ∧ Hid (Ten w (.string x) (.int .i64 first) (.slice A2 r.length c2) (.slice A3 s.length c3) (.int .i64 rate) (.string x) (.int .i64 first) (.slice A4 r.length c4) (.slice A5 s.length c5) (.int .i64 rate) g2 A4 A5 r s w8))))
    have K6 := hide (fun (w' : World) (T : Hid (Ten w (.string x) (.int .i64 first) (.slice A2 r.length c2) (.slice A3 s.length c3) (.int .i64 rate) (.string x) (.int .i64 first) (.slice A4 r.length c4) (.slice A5 s.length c5) (.int .i64 rate) g2 A4 A5 r s w')) => (tontinebook_SameTable.calls (r.length + s.length + 1048586) x first A4 c4 r A5 c5 s x first A2 c2 r A3 c3 s true w' T.out.rates HC4.out T.out.sel HC5.out (Kd.C_below HR.out T.out.below) HC2.out (Kd.C_below HS.out T.out.below) HC3.out HV6.out).mono (fun e w8 h => (⟨h.1, hide (T.out.keep h.2)⟩ : e = .returned (.bool true) ∧ Hid (Ten w (.string x) (.int .i64 first) (.slice A2 r.length c2) (.slice A3 s.length c3) (.int .i64 rate) (.string x) (.int .i64 first) (.slice A4 r.length c4) (.slice A5 s.length c5) (.int .i64 rate) g2 A4 A5 r s w8))))
    have held : ∀ w', Hid (Ten w (.string x) (.int .i64 first) (.slice A2 r.length c2) (.slice A3 s.length c3) (.int .i64 rate) (.string x) (.int .i64 first) (.slice A4 r.length c4) (.slice A5 s.length c5) (.int .i64 rate) g2 A4 A5 r s w') → w'.cell? ⟨w.heap.size, 0, none⟩ = some (.string x) ∧ w'.cell? ⟨w.heap.size, 1, none⟩ = some (.int .i64 first) ∧ w'.cell? ⟨w.heap.size, 2, none⟩ = some (.slice A2 r.length c2) ∧ w'.cell? ⟨w.heap.size, 3, none⟩ = some (.slice A3 s.length c3) ∧ w'.cell? ⟨w.heap.size, 4, none⟩ = some (.int .i64 rate) ∧ w'.cell? ⟨g2, 0, none⟩ = some (.string x) ∧ w'.cell? ⟨g2, 1, none⟩ = some (.int .i64 first) ∧ w'.cell? ⟨g2, 2, none⟩ = some (.slice A4 r.length c4) ∧ w'.cell? ⟨g2, 3, none⟩ = some (.slice A5 s.length c5) ∧ w'.cell? ⟨g2, 4, none⟩ = some (.int .i64 rate) ∧ Hid (Ten w (.string x) (.int .i64 first) (.slice A2 r.length c2) (.slice A3 s.length c3) (.int .i64 rate) (.string x) (.int .i64 first) (.slice A4 r.length c4) (.slice A5 s.length c5) (.int .i64 rate) g2 A4 A5 r s w') := fun w' T => by
      obtain ⟨q0, q1, q2, q3, q4, q5, q6, q7, q8, q9⟩ := T.out.cells
      exact ⟨q0, q1, q2, q3, q4, q5, q6, q7, q8, q9, T⟩
    have HELD := hide held
    clear held
    have T7d := hide (T7.out.keep (below_drew (Below.refl _ _)))
    generalize basisV V rate = V2 at K4 K5
    clear HV4 HV5
    go_region_held3 (fun w' => w'.cell? ⟨w.heap.size, 0, none⟩ = some (.string x) ∧ w'.cell? ⟨w.heap.size, 1, none⟩ = some (.int .i64 first) ∧ w'.cell? ⟨w.heap.size, 2, none⟩ = some (.slice A2 r.length c2) ∧ w'.cell? ⟨w.heap.size, 3, none⟩ = some (.slice A3 s.length c3) ∧ w'.cell? ⟨w.heap.size, 4, none⟩ = some (.int .i64 rate) ∧ w'.cell? ⟨g2, 0, none⟩ = some (.string x) ∧ w'.cell? ⟨g2, 1, none⟩ = some (.int .i64 first) ∧ w'.cell? ⟨g2, 2, none⟩ = some (.slice A4 r.length c4) ∧ w'.cell? ⟨g2, 3, none⟩ = some (.slice A5 s.length c5) ∧ w'.cell? ⟨g2, 4, none⟩ = some (.int .i64 rate) ∧ Hid (Ten w (.string x) (.int .i64 first) (.slice A2 r.length c2) (.slice A3 s.length c3) (.int .i64 rate) (.string x) (.int .i64 first) (.slice A4 r.length c4) (.slice A5 s.length c5) (.int .i64 rate) g2 A4 A5 r s w')) (first | with_reducible exact HELD.out _ T7d | (with_reducible refine HELD.out _ ?_; with_reducible assumption))
      (first | (go_at_call 10; refine (K3.out _ (by go_split_ands; assumption)).mono ?_; rintro e w8 ⟨rfl, k8⟩) | (go_at_call 11; refine (K4.out _ (by go_split_ands; assumption)).mono ?_; rintro e w9 ⟨rfl, k9⟩) | (go_at_call 12; refine (K5.out _ (by go_split_ands; assumption)).mono ?_; rintro e wa ⟨rfl, ka⟩) | (go_at_call 13; refine (K6.out _ (by go_split_ands; assumption)).mono ?_; rintro e wb ⟨rfl, kb⟩))
    clear K3 K4 K5 K6 HELD T7d HV6 HV3 HV2 HV1
    obtain ⟨q0, q1, q2, q3, q4, q5, q6, q7, q8, q9⟩ := kb.out.cells
    have hn := HN.out
    by_cases hV : V = 0
    · subst hV
      rw [if_pos rfl] at hn
      have HN2 := hide hn
      clear hn HN
      go_wp2_with fail
      refine (tontineref09_Last.calls x first A2 c2 r A3 c3 s N wb (Kd.C_below HR.out kb.out.below) HC2.out (Kd.C_below HS.out kb.out.below) HC3.out (by rw [HN2.out]; rfl)).mono ?_
      rintro e wc ⟨rfl, hbc⟩
      go_wp2
      go_ret
      exact ⟨by simp, (kb.out.keep hbc).below⟩
    · rw [if_neg hV] at hn
      subst hn
      go_wp2
      go_ret
      exact ⟨by simp, kb.out.below⟩
end Go.Proofs.Ytbibkhpfemphhaa.TcWalk
