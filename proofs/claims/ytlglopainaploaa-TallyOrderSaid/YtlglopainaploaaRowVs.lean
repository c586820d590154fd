/- A slice of values among the arguments, opened: a row of values. -/
import Derived.Deep.Slices
import Derived.Deep.SlicePairs
import Derived.Test.YtlglopainaploaaAgg5
import Derived.Test.YtlglopainaploaaLawOrderW
namespace Go.Proofs.Ytlglopainaploaa.Tal
open Go.ChangeShapes Go.WideShapes Go.RowKit Go.Deep Go.WideElems Go.Maps Go.Joins
variable {H : Type} {enc : TypeId × Value → H} {w : World} {base : Nat} {spare : Nat → Bool} {held : Bool}
set_option maxRecDepth 100000 in
/-- One value out of its five cells. -/
theorem open_value {n : Nat} {cs : List Value} {x : DataW H × List MemPlace} (h : DataW.trod enc Try.prog w base spare held n 25 cs = some x) :
    ∃ v : Va, cs = [.int .i64 v.k, .int .i64 v.n, .string v.s, .bool v.b, .int .i64 v.c] := by
  obtain ⟨y0, y1, y2, y3, y4, m, _, hl, h0, h1, h2, h3, h4⟩ := trod_struct5 Try.underlying25 h
  have hC : Try.prog.cellsOf 25 = 5 := by kernel_rfl
  rw [hC] at hl
  match cs, hl with
  | [c0, c1, c2, c3, c4], _ =>
    have e22 : Try.prog.cellsOf 22 = 1 := by kernel_rfl
    have e3 : Try.prog.cellsOf 3 = 1 := by kernel_rfl
    have e9 : Try.prog.cellsOf 9 = 1 := by kernel_rfl
    have e4 : Try.prog.cellsOf 4 = 1 := by kernel_rfl
    have e23 : Try.prog.cellsOf 23 = 1 := by kernel_rfl
    simp [e22] at h0
    simp [e3] at h1
    simp [e9] at h2
    simp [e4] at h3
    simp [e23] at h4
    obtain ⟨a0, q0, _, _⟩ := DataW.trod_int Try.underlying22 h0
    obtain ⟨a1, q1, _, _⟩ := DataW.trod_int Try.underlying3 h1
    obtain ⟨a2, q2, _, _⟩ := DataW.trod_string Try.underlying9 h2
    obtain ⟨a3, q3, _⟩ := DataW.trod_bool Try.underlying4 h3
    obtain ⟨a4, q4, _, _⟩ := DataW.trod_int Try.underlying23 h4
    simp at q0 q1 q2 q3 q4
    subst q0 q1 q2 q3 q4
    exact ⟨(a0, a1, a2, a3, a4), rfl⟩
theorem add_same (a : Addr) (i j : Nat) : ((a.add i).add j) = a.add (i + j) := by
  unfold Addr.add
  by_cases hi : i = 0
  · subst hi
    rw [if_pos rfl, Nat.zero_add]
  · rw [if_neg hi]
    by_cases hj : j = 0
    · subst hj
      rw [if_pos rfl, Nat.add_zero, if_neg hi]
    · rw [if_neg hj, if_neg (by omega)]
      simp only [Nat.add_assoc]
set_option maxRecDepth 100000 in
theorem open_values {t : TypeId} {a : Option Addr} {len cap : Nat} {d : DataW H} {p : List MemPlace} (ht : Try.prog.underlying t = some (.slice 25)) (h : DataW.Trod enc Try.prog w base spare held t (.slice a len cap) d p) :
    ∃ l : List Va, l.length = len ∧ VRow w a l := by
  obtain ⟨fuel, hf⟩ := h
  rcases open_slice ht hf with ⟨hcs, _⟩ | ⟨x, len', cap', m, n, D, Pl, hcs, hb, hl, hm, hmm, _, hx⟩
  · simp [Value.cells] at hcs
    obtain ⟨rfl, rfl, rfl⟩ := hcs
    exact ⟨[], rfl, .inl rfl⟩
  · simp [Value.cells] at hcs
    obtain ⟨rfl, rfl, rfl⟩ := hcs
    have hlm : len ≤ m := by rw [hmm]; split <;> omega
    have hC : Try.prog.cellsOf 25 = 5 := by kernel_rfl
    have each : ∀ i, i < len → ∃ v : Va, w.cell? (x.add (i * 5)) = some (.int .i64 v.k) ∧ w.cell? (x.add (i * 5 + 1)) = some (.int .i64 v.n) ∧ w.cell? (x.add (i * 5 + 2)) = some (.string v.s) ∧ w.cell? (x.add (i * 5 + 3)) = some (.bool v.b) ∧ w.cell? (x.add (i * 5 + 4)) = some (.int .i64 v.c) := by
      intro i hi
      obtain ⟨cs', h1, h2⟩ := hx i (by omega)
      rw [hC] at h1
      obtain ⟨v, rfl⟩ := open_value h2
      obtain ⟨_, hlen, hcell⟩ := World.cells?_some h1
      have e0 := hcell 0 (by omega)
      have e1 := hcell 1 (by omega)
      have e2 := hcell 2 (by omega)
      have e3 := hcell 3 (by omega)
      have e4 := hcell 4 (by omega)
      rw [add_same] at e0 e1 e2 e3 e4
      exact ⟨v, by simpa using e0, by simpa using e1, by simpa using e2, by simpa using e3, by simpa using e4⟩
    obtain ⟨f, hF⟩ := choose_lt each
    refine ⟨(List.range len).map f, by simp, ?_⟩
    by_cases z : len = 0
    · subst z; exact .inl rfl
    · right
      obtain ⟨g, o, sp⟩ := x
      have c0 := (hF 0 (by omega)).1
      have hz : (⟨g, o, sp⟩ : Addr).add (0 * 5) = ⟨g, o, sp⟩ := rfl
      rw [hz] at c0
      have hsp : sp = none := by
        unfold World.cell? at c0
        cases sp with
        | none => rfl
        | some q =>
          dsimp only at c0
          split at c0
          · simp at c0
          · cases c0
      subst hsp
      refine ⟨g, o, rfl, World.block_lt_of_cell? w _ c0, fun i hi => ?_⟩
      rw [List.length_map, List.length_range] at hi
      have hg : ((List.range len).map f).getD i vBlank = f i := by
        rw [List.getD_eq_getElem?_getD, List.getElem?_map, List.getElem?_range hi]
        rfl
      rw [hg]
      have q := hF i hi
      rw [add_none, add_none, add_none, add_none, add_none] at q
      exact q
end Go.Proofs.Ytlglopainaploaa.Tal
