/- TableChecks answers true and leaves its argument as it was, where what it reads is of bulk at most 1048576 ('..UptoSaid'). Condition: that bulk, as the statement has it. -/
import Derived.Test.YtbibkhpfemphhaaTcWalk
import Derived.Test.YtbibkhpfemphhaaLaw
namespace Go.Proofs.Ytbibkhpfemphhaa.TableChecks
open Go.ChangeShapes Go.WideShapes Go.ChangeAt Go.RowKit Go.Tn
open Go.Proofs.YtbibkhpfemphhaaW.PrintWords

section
variable {H : Type}
theorem bulk_pos (d : DataW H) : 1 ≤ Rows.uptoBulk d := by
  cases d with
  | lit l => cases l <;> simp [Rows.uptoBulk]
  | _ => simp [Rows.uptoBulk]
theorem bulk_len : ∀ l : List (DataW H), l.length ≤ Rows.uptoBulkAll l
  | [] => by simp [Rows.uptoBulkAll]
  | d :: l => by
    have := bulk_pos d
    have := bulk_len l
    simp only [Rows.uptoBulkAll, List.length_cons]
    omega
theorem bulk_mem : ∀ {l : List (DataW H)} {d : DataW H}, d ∈ l → Rows.uptoBulk d ≤ Rows.uptoBulkAll l
  | e :: l, d, h => by
    simp only [Rows.uptoBulkAll]
    rcases List.mem_cons.1 h with rfl | h
    · omega
    · have := bulk_mem h
      omega
end

theorem ints_C {W : World} {a : Addr} {len : Nat} {zs : List Int} (hl : len ≤ zs.length) (hm : len ≤ 9223372036854775807) (hc : ∀ i, i < zs.length → W.cell? (a.add i) = some (.int .i64 (zs.getD i 0))) :
    Kd.C (Kd.int .i64) W (some a) (zs.take len).length (zs.take len) := by
  have hlen : (zs.take len).length = len := by rw [List.length_take]; omega
  refine ⟨rfl, by omega, fun _ => ⟨a, rfl, fun j p hj => ⟨[.int .i64 p], rfl, rfl, fun i u hu => ?_⟩⟩⟩
  have hi : i = 0 := by
    rcases Nat.eq_zero_or_pos i with h | h
    · exact h
    · rw [List.getElem?_eq_none (by simp; omega)] at hu; cases hu
  subst hi
  obtain ⟨hjl, hjp⟩ := List.getElem?_eq_some_iff.1 hj
  rw [List.length_take] at hjl
  rw [List.getElem_take] at hjp
  simp only [List.getElem?_cons_zero, Option.some.injEq] at hu
  subst hu
  show W.cell? (a.add (j * 1 + 0)) = _
  rw [Nat.mul_one, Nat.add_zero, hc j (by omega), List.getD_eq_getElem?_getD, List.getElem?_eq_getElem (by omega), Option.getD_some, hjp]
theorem ints_nil (W : World) : Kd.C (Kd.int .i64) W none ([] : List Int).length [] := ⟨rfl, by simp, fun h => absurd h (by simp)⟩

theorem rows_C {W : World} {a : Addr} {len : Nat} {A : Nat → Option Addr} {L C : Nat → Nat} {Z : Nat → List Int} (hm : len ≤ 9223372036854775807)
    (h : ∀ r, r < len → W.cell? (a.add r) = some (.slice (A r) (L r) (C r)) ∧ L r ≤ C r ∧ C r ≤ maxLen ∧ (Z r).length = C r ∧ (A r = none → C r = 0) ∧ ∀ a', A r = some a' → ∀ c, c < C r → W.cell? (a'.add c) = some (.int .i64 ((Z r).getD c 0))) :
    Kd.C (Kd.slice 3 (Kd.int .i64)) W (some a) ((List.range len).map fun r => (Z r).take (L r)).length ((List.range len).map fun r => (Z r).take (L r)) := by
  have hlen : ((List.range len).map fun r => (Z r).take (L r)).length = len := by simp
  refine ⟨rfl, by omega, fun _ => ⟨a, rfl, fun j p hj => ?_⟩⟩
  rw [List.getElem?_map] at hj
  obtain ⟨r, hr, rfl⟩ := Option.map_eq_some_iff.1 hj
  have hjl : j < len := by
    have := (List.getElem?_eq_some_iff.1 hr).1
    simpa using this
  have hrj : r = j := by
    have := (List.getElem?_eq_some_iff.1 hr).2
    simpa using this.symm
  subst hrj
  obtain ⟨h1, h2, h3, h4, h5, h6⟩ := h r hjl
  have hl : ((Z r).take (L r)).length = L r := by rw [List.length_take]; omega
  refine ⟨[.slice (A r) (L r) (C r)], rfl, ⟨A r, C r, by rw [hl], by omega, ?_⟩, fun i u hu => ?_⟩
  · cases ha : A r with
    | none =>
      have h0 := h5 ha
      have : (Z r).take (L r) = [] := List.eq_nil_of_length_eq_zero (by omega)
      rw [this]
      exact ints_nil W
    | some a' =>
      exact ints_C (by omega) (by simp only [maxLen] at h3; omega) (fun i hi => h6 a' ha i (by omega))
  · have hi : i = 0 := by
      rcases Nat.eq_zero_or_pos i with h | h
      · exact h
      · rw [List.getElem?_eq_none (by simp; omega)] at hu; cases hu
    subst hi
    simp only [List.getElem?_cons_zero, Option.some.injEq] at hu
    subst hu
    show W.cell? (a.add (r * 1 + 0)) = _
    rw [Nat.mul_one, Nat.add_zero, h1]

set_option maxRecDepth 100000 in
theorem contract (H : Type) (enc : TypeId × Value → H) (W : World) (base : Nat) (args : Array Value) (ds gs : List (DataW H)) (before : List MemPlace)
    (hval : ∀ (j : Nat) t v, Try.f3.params[j]? = some t → args[j]? = some v → Value.okWide Try.prog W .any base t v)
    (hW : DataW.Whole enc Try.prog Try.f3.params.toList Rows.tableChecksSpec.vars false W args.toList ds gs before) (hk : Rows.uptoSmall H (ds ++ gs) = true) :
    Calls Try.prog 3 args W fun e W' => ∃ v, e = .returned v ∧ Rows.tableChecksSpec.post enc Try.prog Try.f3 false true false false W args v W' := by
  have hW' := hW
  obtain ⟨p, q, hA0, hV, rfl, hfz, hnd⟩ := hW
  have hA : DataW.TrodAll enc Try.prog W 0 (fun _ => true) true Try.f3.params.toList args.toList ds p := hA0
  rw [Try.params3] at hA hval
  obtain ⟨v0, vs0, d0, ds0, p0, q0, hargs, rfl, rfl, h0, r0⟩ := trodAll_cons hA
  obtain ⟨rfl, rfl, rfl⟩ := trodAll_nil r0
  obtain rfl : args = #[v0] := by cases args; simp_all
  obtain ⟨rfl, rfl⟩ := trodVars_none hV
  obtain ⟨cs, rfl, hsz⟩ := okWide_struct Try.underlying27 (hval 0 27 v0 rfl rfl)
  obtain ⟨l⟩ := cs
  match l, hsz.trans (show Try.prog.cellsOf 27 = 5 by kernel_rfl) with
  | [e0, e1, e2, e3, e4], _ =>
    obtain ⟨fuel, hf⟩ := h0
    obtain ⟨xs, n, hx, _, hxl, hfield⟩ := trod_field Try.underlying27 hf
    obtain ⟨y0, hy0, ht0⟩ := hfield 0 25 0 rfl
    obtain ⟨y1, hy1, ht1⟩ := hfield 1 3 4 rfl
    have c25 : Try.prog.cellsOf 25 = 4 := by kernel_rfl
    have c3 : Try.prog.cellsOf 3 = 1 := by kernel_rfl
    have c9 : Try.prog.cellsOf 9 = 1 := by kernel_rfl
    have c22 : Try.prog.cellsOf 22 = 1 := by kernel_rfl
    have c23 : Try.prog.cellsOf 23 = 1 := by kernel_rfl
    simp only [Value.cells, c25, c3, List.drop_zero, List.take_succ_cons, List.take_zero, List.drop_succ_cons] at ht0 ht1
    obtain ⟨xs2, n2, hx2, _, hxl2, hfield2⟩ := trod_field Try.underlying25 ht0
    obtain ⟨z0, hz0, hu0⟩ := hfield2 0 9 0 rfl
    obtain ⟨z1, hz1, hu1⟩ := hfield2 1 3 1 rfl
    obtain ⟨z2, hz2, hu2⟩ := hfield2 2 22 2 rfl
    obtain ⟨z3, hz3, hu3⟩ := hfield2 3 23 3 rfl
    simp only [c9, c3, c22, c23, List.drop_zero, List.take_succ_cons, List.take_zero, List.drop_succ_cons] at hu0 hu1 hu2 hu3
    obtain ⟨rate, er, rfl, hrw⟩ := DataW.trod_int Try.underlying3 ht1
    obtain ⟨x, ex, rfl, hxm⟩ := DataW.trod_string Try.underlying9 hu0
    obtain ⟨first, ef, rfl, hfw⟩ := DataW.trod_int Try.underlying3 hu1
    obtain rfl : e4 = _ := (List.cons.inj er).1
    obtain rfl : e0 = _ := (List.cons.inj ex).1
    obtain rfl : e1 = _ := (List.cons.inj ef).1
    obtain ⟨A2, c2, r, e2e, hc2, hr, hrb⟩ : ∃ (A2 : Option Addr) (c2 : Nat) (r : List Int), e2 = .slice A2 r.length c2 ∧ r.length ≤ c2 ∧ Kd.C (Kd.int .i64) W A2 r.length r ∧ r.length ≤ Rows.uptoBulk z2.1 := by
      rcases open_ints Try.underlying22 Try.underlying3 c3 hu2 with ⟨hcs, rfl⟩ | ⟨a, len, cap, zs, hcs, _, h1, h2, h3, rfl, h5, h6⟩
      · exact ⟨none, 0, [], (List.cons.inj hcs).1, by simp, ints_nil W, by simp⟩
      · simp only [if_true] at h3
        have hl : (zs.take len).length = len := by rw [List.length_take]; omega
        refine ⟨some a, cap, zs.take len, by rw [hl]; exact (List.cons.inj hcs).1, by omega, ints_C (by omega) (by simp only [maxLen] at h2; omega) h5, ?_⟩
        have hb := bulk_len (lits (H := H) .i64 (zs.take len))
        simp only [lits, List.length_map] at hb
        simp only [Rows.uptoBulk, lits]
        omega
    obtain ⟨A3, c3', s, e3e, hc3, hs, hsb, hsB⟩ : ∃ (A3 : Option Addr) (c3' : Nat) (s : List (List Int)), e3 = .slice A3 s.length c3' ∧ s.length ≤ c3' ∧ Kd.C (Kd.slice 3 (Kd.int .i64)) W A3 s.length s ∧ s.length ≤ Rows.uptoBulk z3.1 ∧ ∀ l ∈ s, l.length ≤ Rows.uptoBulk z3.1 := by
      rcases Go.Deep.open_int_rows Try.underlying23 Try.underlying22 Try.underlying3 c22 c3 hu3 with ⟨hcs, rfl⟩ | ⟨a, len, cap, A, L, C, Z, hcs, _, h1, h2, rfl, hrow⟩
      · exact ⟨none, 0, [], (List.cons.inj hcs).1, by simp, ⟨rfl, by simp, fun h => absurd h (by simp)⟩, by simp, by simp⟩
      · have hl : ((List.range len).map fun r => (Z r).take (L r)).length = len := by simp
        refine ⟨some a, cap, (List.range len).map fun r => (Z r).take (L r), by rw [hl]; exact (List.cons.inj hcs).1, by omega, rows_C (A := A) (L := L) (C := C) (Z := Z) (by simp only [maxLen] at h2; omega) (fun r hr => ?_), ?_, fun l hl2 => ?_⟩
        · obtain ⟨g1, g2, g3, g4, _, g6, g7⟩ := hrow r (by omega)
          exact ⟨g1, g2, g3, g4, g6, fun a' ha => (g7 a' ha).2⟩
        · have hb := bulk_len ((List.range len).map fun r => Go.Deep.intRow (H := H) .i64 (A r) (L r) (Z r))
          simp only [List.length_map, List.length_range] at hb
          simp only [Rows.uptoBulk, hl]
          omega
        · obtain ⟨r, hr, rfl⟩ := List.mem_map.1 hl2
          have hr' := List.mem_range.1 hr
          obtain ⟨g1, g2, g3, g4, _, g6, g7⟩ := hrow r (by omega)
          have hb := bulk_mem (List.mem_map.2 ⟨r, hr, rfl⟩ : Go.Deep.intRow (H := H) .i64 (A r) (L r) (Z r) ∈ (List.range len).map fun r => Go.Deep.intRow (H := H) .i64 (A r) (L r) (Z r))
          have hb2 : ((Z r).take (L r)).length ≤ Rows.uptoBulk (Go.Deep.intRow (H := H) .i64 (A r) (L r) (Z r)) := by
            cases ha : A r with
            | none =>
              have := g6 ha
              rw [List.length_take]; omega
            | some a' =>
              have hb3 := bulk_len (lits (H := H) .i64 ((Z r).take (L r)))
              simp only [lits, List.length_map] at hb3
              simp only [Go.Deep.intRow, Rows.uptoBulk, lits]
              omega
          simp only [Rows.uptoBulk]
          omega
    subst e2e e3e
    have hsize : x.size + Rows.uptoBulk z2.1 + Rows.uptoBulk z3.1 ≤ 1048576 := by
      have hk1 : Rows.uptoBulkAll ([d0] ++ []) ≤ 1048576 := of_decide_eq_true hk
      have hxl' : xs.length = 2 := hxl
      have hxl2' : xs2.length = 4 := hxl2
      obtain ⟨k0, k1, rfl⟩ : ∃ k0 k1, xs = [k0, k1] := by
        match xs, hxl' with
        | [k0, k1], _ => exact ⟨k0, k1, rfl⟩
      obtain ⟨m0, m1, m2, m3, rfl⟩ : ∃ m0 m1 m2 m3, xs2 = [m0, m1, m2, m3] := by
        match xs2, hxl2' with
        | [m0, m1, m2, m3], _ => exact ⟨m0, m1, m2, m3, rfl⟩
      simp only [List.getElem?_cons_zero, List.getElem?_cons_succ, Option.some.injEq] at hy0 hy1 hz0 hz1 hz2 hz3
      subst hy0 hy1 hz0 hz1 hz2 hz3
      simp only at hx hx2
      rw [hx] at hk1
      simp only [List.map_cons, List.map_nil, hx2, List.append_nil, Rows.uptoBulkAll, Rows.uptoBulk] at hk1
      have e : x.data.toList.length = x.size := by rw [Array.length_toList]; rfl
      omega
    refine (TcWalk.walk x first A2 A3 c2 c3' r s rate W hr hc2 hs hc3 (by omega) (by omega) (by omega) (fun l hl => by have := hsB l hl; omega)).mono fun e W' ⟨he, hb⟩ => ?_
    subst he
    exact ⟨_, rfl, law_post (tb := 4) laid_Ytbibkhpfemphhaa hW' rfl (by kernel_rfl) (by kernel_rfl) Try.underlying4 rfl hb⟩

set_option maxRecDepth 100000 in
theorem lifted (os : Os) (started : os.Started) (H : Type) (enc : TypeId × Value → H) (F : Stop.Interp) :
    ReturnsInHanded {} Try.checked os 3 .any ((Rows.OpenSpec.upto Rows.tableChecksSpec).pre6 enc Try.prog Try.f3 Rows.tableChecksUptoRow.domain false) (((Rows.OpenSpec.upto Rows.tableChecksSpec).at F).post enc Try.prog Try.f3 false true false false) := by
  refine returnsInHanded_of_cond (C := Try.checked) (s := Rows.OpenSpec.upto Rows.tableChecksSpec) (k := Rows.uptoSmall) rfl own_Ytbibkhpfemphhaa started (by kernel_rfl) Try.func3
    (OpenSpec.witness (enc := enc) (C := Try.checked) (s := Rows.OpenSpec.upto Rows.tableChecksSpec) (k := Rows.uptoSmall) rfl false ⟨#[], #[.agg #[.string .empty, .int .i64 0, .slice none 0 0, .slice none 0 0, .int .i64 0]], []⟩ 8 (by kernel_rfl) (by kernel_rfl) (by kernel_rfl)
      (x := ([.agg [.agg [.lit (.string []), .lit (.int .i64 0), .nil, .nil], .lit (.int .i64 0)]], [], [])) (by kernel_rfl) rfl (by kernel_rfl)) ?_
  intro W base args ds gs before hval hW _ hk _
  exact contract H enc W base args ds gs before hval hW hk

theorem proved : Rows.TableChecksUptoSaid :=
  OpenClaim.holds_of_cond 3 Try.f3 rfl rfl rfl rfl rfl rfl rfl ⟨rfl, rfl, rfl, rfl, rfl⟩ rfl rfl rfl rfl rfl (by kernel_rfl) Try.func3 (by kernel_rfl)
    (of_decide_eq_true (by kernel_rfl)) (by unfold Func.isWrapper; first | (rw [if_pos (by decide +kernel)]; kernel_rfl) | (rw [if_neg (by decide +kernel)]; exact ⟨rfl, rfl⟩))
    (fun os started H enc _ F => lifted os started H enc F)
end Go.Proofs.Ytbibkhpfemphhaa.TableChecks
#print axioms Go.Proofs.Ytbibkhpfemphhaa.TableChecks.proved
