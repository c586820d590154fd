/- A value that is added n times is there n times: foolscaplaw20.TallyOften walked. -/
import Derived.Test.YtlglopainaploaaTalIi
import Derived.Test.YtlglopainaploaaTalAlike
namespace Go.Proofs.Ytlglopainaploaa.Tal
open Go.RowKit Go.Proofs.YtlglopainaploaaW.PrintWords Go.Proofs.YtlglopainaploaaW.PrintLast Go.Proofs.YtlglopainaploaaW.PrintMore
open Go.Proofs.Ytlglopainaploaa.PV Go.Proofs.Ytlglopainaploaa.Pure
set_option linter.unusedVariables false
set_option linter.unusedSimpArgs false

theorem blk_lt {w : World} {b : Nat} {o : Obj} (h : w.heap[b]? = some o) : b < w.heap.size := (Array.getElem?_eq_some_iff.1 h).1
theorem reps_held {x : Va} {i : Nat} : (x.held :: List.replicate i x.held) = List.replicate (i + 1) x.held := rfl
theorem Mine.at {w w' : World} {t : Nat} {s : TS} (h : Mine w t s w') {b : Nat} {o : Obj} (hb : w.heap[b]? = some o) : w'.heap[b]? = some o := (h.below.block b (Array.getElem?_eq_some_iff.1 hb).1).trans hb
theorem Mine.beside {w w1 : World} {t : Nat} {s : TS} (h : Mine w t s w1) {b i : Nat} {v : Value} (hd : ¬ domT t s b) (hb : w.heap.size ≤ b) : Mine w t s (w1.setCell ⟨b, i, none⟩ v) :=
  ⟨h.rep.same (fun c hc => blk_set_ne (fun e => hd (by rw [← e]; exact hc)) v), h.below.setCell (p := ⟨b, i, none⟩) hb v, h.dom⟩
theorem cnt_rep (n : Nat) (a : Va) : cnt (List.replicate n a) a = n := by
  unfold cnt
  rw [List.countP_replicate, if_pos (decide_eq_true rfl)]
theorem kn_rep (n : Nat) (a : Va) : kn (List.replicate n a) a.1 = n := by
  unfold kn
  rw [List.countP_replicate, if_pos (decide_eq_true rfl)]
theorem cnt_rep_ne (n : Nat) {a b : Va} (h : a ≠ b) : cnt (List.replicate n a) b = 0 := by
  unfold cnt
  rw [List.countP_replicate, if_neg (by simpa using h)]
  rfl
theorem kind_rng {x : Va} (h : x.ok) : 0 ≤ x.1 ∧ x.1 < 5 := by
  rcases Va.ok_cases h with rfl | ⟨n, hn, rfl⟩ | ⟨s, hs, rfl⟩ | ⟨b, rfl⟩ | ⟨c, c1, c8, rfl⟩ <;> simp
theorem count_of {w : World} {t N : Nat} {s : TS} {L : List Va} (h : TRep w t s) (ok : TOk s N L) {k : Int} (h0 : 0 ≤ k) (h1 : k < 5) :
    Calls Try.prog 16 #[.pointer (some ⟨t, 0, none⟩), .int .i64 k] w fun e w' => e = .returned (.int .i64 (kn L k)) ∧ Below w.heap.size w w' := by
  have r := count_ok (k := k.toNat) h ok (by omega)
  rw [show ((k.toNat : Nat) : Int) = k by omega] at r
  exact r
theorem toList_inj {a b : ByteArray} (h : a.toList = b.toList) : a = b := by
  have h2 : a.data.toList = b.data.toList := by rw [← ByteArray.toList_eq, ← ByteArray.toList_eq]; exact h
  have h3 : a.data = b.data := Array.toList_inj.1 h2
  cases a
  cases b
  cases h3
  rfl
/-- Alike: what is not alike is not held as the same. -/
theorem alike_calls (x y : Va) (w : World) (hx : x.ok) : ∃ r : Bool, (Calls Try.prog 35 #[x.v, y.v] w fun e w' => e = .returned (.bool r) ∧ Below w.heap.size w w') ∧ (r = false → ¬ y.ok ∨ x.held ≠ y.held) := by
  have e1 : value_Check.f x.k x.n x.s x.b x.c = some 0 := hx
  by_cases hy : y.ok
  · have e2 : value_Check.f y.k y.n y.s y.b y.c = some 0 := hy
    have e : value_Alike.f 1 x.k x.n x.s x.b x.c y.k y.n y.s y.b y.c = some (x.k == y.k && (x.n == y.n && ((value_Fold.s x.s).toList == (value_Fold.s y.s).toList && (x.b == y.b && (x.c == y.c))))) := by
      unfold value_Alike.f
      rw [e1]
      simp only [Option.bind_some, if_true]
      rw [e2]
      simp only [Option.bind_some, value_Alike.j0, value_Fold.f]
      rfl
    refine ⟨_, value_Alike.calls 1 _ _ _ _ _ _ _ _ _ _ _ w e, fun hr => .inr (fun q => ?_)⟩
    unfold Va.held at q
    injection q with q1 q
    injection q with q2 q
    injection q with q3 q
    injection q with q4 q5
    rw [q1, q2, q3, q4, q5] at hr
    simp at hr
  · have e2 : value_Check.f y.k y.n y.s y.b y.c = some 2 := Va.bad hy
    have e : value_Alike.f 1 x.k x.n x.s x.b x.c y.k y.n y.s y.b y.c = some false := by
      unfold value_Alike.f
      rw [e1]
      simp only [Option.bind_some, if_true]
      rw [e2]
      simp only [Option.bind_some, value_Alike.j0]
      rfl
    exact ⟨_, value_Alike.calls 1 _ _ _ _ _ _ _ _ _ _ _ w e, fun _ => .inl hy⟩
theorem often_rep {w : World} {t i N : Nat} {s : TS} {x y : Va} (h : TRep w t s) (ok : TOk s N (List.replicate i x.held)) (hy : y.ok) (e : y.held = x.held) :
    Calls Try.prog 20 #[.pointer (some ⟨t, 0, none⟩), y.v] w fun e w' => e = .returned (.int .i64 (i : Int)) ∧ Below w.heap.size w w' := by
  have r := often_ok h ok hy
  rw [e, cnt_rep] at r
  exact r
theorem often_else {w : World} {t i N : Nat} {s : TS} {x y : Va} (h : TRep w t s) (ok : TOk s N (List.replicate i x.held)) (hy : ¬ y.ok ∨ x.held ≠ y.held) :
    Calls Try.prog 20 #[.pointer (some ⟨t, 0, none⟩), y.v] w fun e w' => e = .returned (.int .i64 0) ∧ Below w.heap.size w w' := by
  by_cases q : y.ok
  · have r := often_ok h ok q
    rw [cnt_rep_ne i (hy.resolve_left (fun z => z q))] at r
    exact r
  · exact often_no h q
theorem count_rep {w : World} {t i N : Nat} {s : TS} {x : Va} (h : TRep w t s) (ok : TOk s N (List.replicate i x.held)) (hx : x.ok) :
    Calls Try.prog 16 #[.pointer (some ⟨t, 0, none⟩), .int .i64 x.1] w fun e w' => e = .returned (.int .i64 (i : Int)) ∧ Below w.heap.size w w' := by
  have r := count_of h ok (kind_rng hx).1 (kind_rng hx).2
  have e : kn (List.replicate i x.held) x.1 = i := kn_rep i x.held
  rw [e] at r
  exact r
theorem all_rep {w : World} {t i N : Nat} {s : TS} {x : Va} (h : TRep w t s) (ok : TOk s N (List.replicate i x)) :
    Calls Try.prog 17 #[.pointer (some ⟨t, 0, none⟩)] w fun e w' => e = .returned (.int .i64 (i : Int)) ∧ Below w.heap.size w w' := by
  have r := all_ok h ok
  rw [List.length_replicate] at r
  refine r.mono ?_
  rintro e w' ⟨he, rfl⟩
  exact ⟨he, Below.refl _ _⟩
/-- A block beside the tally's. -/
theorem beside_step {w w' : World} {t b : Nat} {s s' : TS} {o : Obj} (h : TW w t s w' s') (hb : w.heap[b]? = some o) (hd : ¬ domT t s b) : w'.heap[b]? = some o ∧ ¬ domT t s' b := by
  have lt := (Array.getElem?_eq_some_iff.1 hb).1
  exact ⟨(h.chg.block b lt hd).trans hb, fun q => (h.dom b q).elim hd (fun q => absurd lt (Nat.not_lt.2 q))⟩
set_option maxHeartbeats 3200000 in
set_option maxRecDepth 100000 in
theorem often_walk (kd n : Int) (str : ByteArray) (b : Bool) (c : Int) (N : Nat) (kd' n' : Int) (str' : ByteArray) (b' : Bool) (c' : Int) (w : World) (hN : N ≤ 100) (ok : Va.ok (kd, n, str, b, c)) :
    Calls Try.prog 6 #[.agg #[.int .i64 kd, .int .i64 n, .string str, .bool b, .int .i64 c], .int .i64 (N : Int), .agg #[.int .i64 kd', .int .i64 n', .string str', .bool b', .int .i64 c']] w fun e w' => e = .returned (.bool true) ∧ Below w.heap.size w w' := by
  have hu25 := Try.underlying25
  have d1 : decide ((N : Int) < 0) = false := decide_eq_false (by omega)
  have d2 : decide (100 < (N : Int)) = false := decide_eq_false (by omega)
  have HN := Aside0.mk hN
  have OV := Aside0.mk ok
  clear hN ok
  go_enter Try.func6, Try.ntmps6
  have V0 := Aside0.mk ((Below.heap_alloc (w.alloc (.cells #[.int .i64 kd, .int .i64 n, .string str, .bool b, .int .i64 c] 25)) (.cells #[.int .i64 kd', .int .i64 n', .string str', .bool b', .int .i64 c'] 25) _ (by simp)).trans (blk_alloc_new w (.cells #[.int .i64 kd, .int .i64 n, .string str, .bool b, .int .i64 c] 25)))
  have O0 := Aside0.mk (blk_alloc_new (w.alloc (.cells #[.int .i64 kd, .int .i64 n, .string str, .bool b, .int .i64 c] 25)) (.cells #[.int .i64 kd', .int .i64 n', .string str', .bool b', .int .i64 c'] 25))
  have B0 := Aside0.mk (below_alloc (below_alloc (Below.refl w.heap.size w) (.cells #[.int .i64 kd, .int .i64 n, .string str, .bool b, .int .i64 c] 25)) (.cells #[.int .i64 kd', .int .i64 n', .string str', .bool b', .int .i64 c'] 25))
  have hz : (w.alloc (.cells #[.int .i64 kd, .int .i64 n, .string str, .bool b, .int .i64 c] 25)).heap.size = w.heap.size + 1 := by simp
  rw [hz] at O0
  clear hz
  go_wp2_with fail
  generalize (w.alloc (.cells #[.int .i64 kd, .int .i64 n, .string str, .bool b, .int .i64 c] 25)).alloc (.cells #[.int .i64 kd', .int .i64 n', .string str', .bool b', .int .i64 c'] 25) = w0 at *
  have ck := check_calls (w := w0) (kd, n, str, b, c)
  rw [if_pos OV.out] at ck
  refine ck.mono ?_
  rintro e wB ⟨rfl, hb⟩
  have VB := Aside0.mk ((hb.block _ (blk_lt V0.out)).trans V0.out)
  have OB := Aside0.mk ((hb.block _ (blk_lt O0.out)).trans O0.out)
  have BB := Aside0.mk (below_step2 B0.out hb)
  clear hb V0 O0 B0 ck
  go_wp2_with fail
  with_reducible refine (new_mine _).mono ?_
  rintro e w1 ⟨rfl, m⟩
  have M0 := Aside0.mk m
  clear m
  go_wp2_with fail
  go_loopg [8] N (fun kq v8 w' => ∃ i : Nat, v8 = .int .i64 (i : Int) ∧ Aside0 (i + kq = N) ∧ Aside0 (∃ s, Mine wB (wB.heap.size + 2) s w' ∧ TOk s i (List.replicate i (Va.held (kd, n, str, b, c)))))
  case atStart => exact ⟨0, rfl, ⟨Nat.zero_add _⟩, ⟨_, M0.out, TOk.new _ 0⟩⟩
  case round =>
    obtain ⟨i, rfl, HI, HT⟩ := hrel
    obtain ⟨s, mi, ok⟩ := HT.out
    have MI := Aside0.mk mi
    have OK := Aside0.mk ok
    clear HT mi ok M0
    cases gk with
    | zero =>
      have e : i = N := HI.out
      subst e
      have d3 : decide ((i : Int) < (i : Int)) = false := decide_eq_false (by omega)
      have NT := Aside0.mk (fun q => absurd (MI.out.rep.lt q) (Nat.lt_irrefl _) : ¬ domT (wB.heap.size + 2) s wr.heap.size)
      have GE := Aside0.mk (MI.out.below.size : wB.heap.size ≤ wr.heap.size)
      have MA := Aside0.mk (MI.out.step (below_alloc (Below.refl _ _) (.cells #[.int .i64 kd, .int .i64 n, .string str, .bool b, .int .i64 c] 25)))
      have WA := Aside0.mk (blk_alloc_new wr (.cells #[.int .i64 kd, .int .i64 n, .string str, .bool b, .int .i64 c] 25))
      have VA := Aside0.mk (MA.out.at VB.out)
      have v0 := (cell_of_blk (MI.out.at VB.out) (i := 0)).trans rfl
      have v1 := (cell_of_blk (MI.out.at VB.out) (i := 1)).trans rfl
      have v2 := (cell_of_blk (MI.out.at VB.out) (i := 2)).trans rfl
      have v3 := (cell_of_blk (MI.out.at VB.out) (i := 3)).trans rfl
      have v4 := (cell_of_blk (MI.out.at VB.out) (i := 4)).trans rfl
      have x2 := (cell_of_blk VA.out (i := 2)).trans rfl
      go_wp2_with fail
      refine (value_Fold.calls str (value_Fold.s str) _ rfl).mono ?_
      rintro e w2 ⟨rfl, b2⟩
      have M2 := Aside0.mk (MA.out.step b2)
      have W2 := Aside0.mk ((b2.block _ (blk_lt WA.out)).trans WA.out)
      have x9 : w2.cell? ⟨wr.heap.size, 2, none⟩ = some (.string str) := (cell_of_blk W2.out).trans rfl
      have f2 : w2.frozen? ⟨wr.heap.size, 2, none⟩ = false := free_of_blk W2.out
      clear b2 v0 v1 v2 v3 v4 x2 MA WA VA MI
      have M3 := Aside0.mk (M2.out.beside (i := 2) (v := .string (value_Fold.s str)) NT.out GE.out)
      have W3 := Aside0.mk (blk_set_same W2.out (.string (value_Fold.s str)) (i := 2))
      clear M2 W2
      have v0 : (w2.setCell ⟨wr.heap.size, 2, none⟩ (.string (value_Fold.s str))).cell? ⟨w.heap.size, 0, none⟩ = some (.int .i64 kd) := (cell_of_blk (M3.out.at VB.out) (i := 0)).trans rfl
      have v1 : (w2.setCell ⟨wr.heap.size, 2, none⟩ (.string (value_Fold.s str))).cell? ⟨w.heap.size, 1, none⟩ = some (.int .i64 n) := (cell_of_blk (M3.out.at VB.out) (i := 1)).trans rfl
      have v2 : (w2.setCell ⟨wr.heap.size, 2, none⟩ (.string (value_Fold.s str))).cell? ⟨w.heap.size, 2, none⟩ = some (.string str) := (cell_of_blk (M3.out.at VB.out) (i := 2)).trans rfl
      have v3 : (w2.setCell ⟨wr.heap.size, 2, none⟩ (.string (value_Fold.s str))).cell? ⟨w.heap.size, 3, none⟩ = some (.bool b) := (cell_of_blk (M3.out.at VB.out) (i := 3)).trans rfl
      have v4 : (w2.setCell ⟨wr.heap.size, 2, none⟩ (.string (value_Fold.s str))).cell? ⟨w.heap.size, 4, none⟩ = some (.int .i64 c) := (cell_of_blk (M3.out.at VB.out) (i := 4)).trans rfl
      have x0 : (w2.setCell ⟨wr.heap.size, 2, none⟩ (.string (value_Fold.s str))).cell? ⟨wr.heap.size, 0, none⟩ = some (.int .i64 kd) := (cell_of_blk W3.out (i := 0)).trans rfl
      have x1 : (w2.setCell ⟨wr.heap.size, 2, none⟩ (.string (value_Fold.s str))).cell? ⟨wr.heap.size, 1, none⟩ = some (.int .i64 n) := (cell_of_blk W3.out (i := 1)).trans rfl
      have x2 : (w2.setCell ⟨wr.heap.size, 2, none⟩ (.string (value_Fold.s str))).cell? ⟨wr.heap.size, 2, none⟩ = some (.string (value_Fold.s str)) := (cell_of_blk W3.out (i := 2)).trans rfl
      have x3 : (w2.setCell ⟨wr.heap.size, 2, none⟩ (.string (value_Fold.s str))).cell? ⟨wr.heap.size, 3, none⟩ = some (.bool b) := (cell_of_blk W3.out (i := 3)).trans rfl
      have x4 : (w2.setCell ⟨wr.heap.size, 2, none⟩ (.string (value_Fold.s str))).cell? ⟨wr.heap.size, 4, none⟩ = some (.int .i64 c) := (cell_of_blk W3.out (i := 4)).trans rfl
      go_wp2_with fail
      refine (often_rep (x := (kd, n, str, b, c)) (y := (kd, n, str, b, c)) M3.out.rep OK.out OV.out rfl).mono ?_
      rintro e y1 ⟨rfl, hb⟩
      have M4 := Aside0.mk (M3.out.step hb)
      have W4 := Aside0.mk ((hb.block _ (blk_lt W3.out)).trans W3.out)
      clear v0 v1 v2 v3 v4 x0 x1 x2 x3 x4
      clear hb M3 W3 f2 x9
      have v0 : y1.cell? ⟨w.heap.size, 0, none⟩ = some (.int .i64 kd) := (cell_of_blk (M4.out.at VB.out) (i := 0)).trans rfl
      have v1 : y1.cell? ⟨w.heap.size, 1, none⟩ = some (.int .i64 n) := (cell_of_blk (M4.out.at VB.out) (i := 1)).trans rfl
      have v2 : y1.cell? ⟨w.heap.size, 2, none⟩ = some (.string str) := (cell_of_blk (M4.out.at VB.out) (i := 2)).trans rfl
      have v3 : y1.cell? ⟨w.heap.size, 3, none⟩ = some (.bool b) := (cell_of_blk (M4.out.at VB.out) (i := 3)).trans rfl
      have v4 : y1.cell? ⟨w.heap.size, 4, none⟩ = some (.int .i64 c) := (cell_of_blk (M4.out.at VB.out) (i := 4)).trans rfl
      have x0 : y1.cell? ⟨wr.heap.size, 0, none⟩ = some (.int .i64 kd) := (cell_of_blk W4.out (i := 0)).trans rfl
      have x1 : y1.cell? ⟨wr.heap.size, 1, none⟩ = some (.int .i64 n) := (cell_of_blk W4.out (i := 1)).trans rfl
      have x2 : y1.cell? ⟨wr.heap.size, 2, none⟩ = some (.string (value_Fold.s str)) := (cell_of_blk W4.out (i := 2)).trans rfl
      have x3 : y1.cell? ⟨wr.heap.size, 3, none⟩ = some (.bool b) := (cell_of_blk W4.out (i := 3)).trans rfl
      have x4 : y1.cell? ⟨wr.heap.size, 4, none⟩ = some (.int .i64 c) := (cell_of_blk W4.out (i := 4)).trans rfl
      go_wp2_with fail
      refine (often_rep (x := (kd, n, str, b, c)) (y := Va.held (kd, n, str, b, c)) M4.out.rep OK.out (ok_held OV.out) (held_held _)).mono ?_
      rintro e y2 ⟨rfl, hb⟩
      have M5 := Aside0.mk (M4.out.step hb)
      have W5 := Aside0.mk ((hb.block _ (blk_lt W4.out)).trans W4.out)
      clear v0 v1 v2 v3 v4 x0 x1 x2 x3 x4
      clear hb M4 W4
      have v0 : y2.cell? ⟨w.heap.size, 0, none⟩ = some (.int .i64 kd) := (cell_of_blk (M5.out.at VB.out) (i := 0)).trans rfl
      have v1 : y2.cell? ⟨w.heap.size, 1, none⟩ = some (.int .i64 n) := (cell_of_blk (M5.out.at VB.out) (i := 1)).trans rfl
      have v2 : y2.cell? ⟨w.heap.size, 2, none⟩ = some (.string str) := (cell_of_blk (M5.out.at VB.out) (i := 2)).trans rfl
      have v3 : y2.cell? ⟨w.heap.size, 3, none⟩ = some (.bool b) := (cell_of_blk (M5.out.at VB.out) (i := 3)).trans rfl
      have v4 : y2.cell? ⟨w.heap.size, 4, none⟩ = some (.int .i64 c) := (cell_of_blk (M5.out.at VB.out) (i := 4)).trans rfl
      have x0 : y2.cell? ⟨wr.heap.size, 0, none⟩ = some (.int .i64 kd) := (cell_of_blk W5.out (i := 0)).trans rfl
      have x1 : y2.cell? ⟨wr.heap.size, 1, none⟩ = some (.int .i64 n) := (cell_of_blk W5.out (i := 1)).trans rfl
      have x2 : y2.cell? ⟨wr.heap.size, 2, none⟩ = some (.string (value_Fold.s str)) := (cell_of_blk W5.out (i := 2)).trans rfl
      have x3 : y2.cell? ⟨wr.heap.size, 3, none⟩ = some (.bool b) := (cell_of_blk W5.out (i := 3)).trans rfl
      have x4 : y2.cell? ⟨wr.heap.size, 4, none⟩ = some (.int .i64 c) := (cell_of_blk W5.out (i := 4)).trans rfl
      go_wp2_with fail
      refine (count_rep (x := (kd, n, str, b, c)) M5.out.rep OK.out OV.out).mono ?_
      rintro e y3 ⟨rfl, hb⟩
      have M6 := Aside0.mk (M5.out.step hb)
      have W6 := Aside0.mk ((hb.block _ (blk_lt W5.out)).trans W5.out)
      clear v0 v1 v2 v3 v4 x0 x1 x2 x3 x4
      clear hb M5 W5
      have v0 : y3.cell? ⟨w.heap.size, 0, none⟩ = some (.int .i64 kd) := (cell_of_blk (M6.out.at VB.out) (i := 0)).trans rfl
      have v1 : y3.cell? ⟨w.heap.size, 1, none⟩ = some (.int .i64 n) := (cell_of_blk (M6.out.at VB.out) (i := 1)).trans rfl
      have v2 : y3.cell? ⟨w.heap.size, 2, none⟩ = some (.string str) := (cell_of_blk (M6.out.at VB.out) (i := 2)).trans rfl
      have v3 : y3.cell? ⟨w.heap.size, 3, none⟩ = some (.bool b) := (cell_of_blk (M6.out.at VB.out) (i := 3)).trans rfl
      have v4 : y3.cell? ⟨w.heap.size, 4, none⟩ = some (.int .i64 c) := (cell_of_blk (M6.out.at VB.out) (i := 4)).trans rfl
      have x0 : y3.cell? ⟨wr.heap.size, 0, none⟩ = some (.int .i64 kd) := (cell_of_blk W6.out (i := 0)).trans rfl
      have x1 : y3.cell? ⟨wr.heap.size, 1, none⟩ = some (.int .i64 n) := (cell_of_blk W6.out (i := 1)).trans rfl
      have x2 : y3.cell? ⟨wr.heap.size, 2, none⟩ = some (.string (value_Fold.s str)) := (cell_of_blk W6.out (i := 2)).trans rfl
      have x3 : y3.cell? ⟨wr.heap.size, 3, none⟩ = some (.bool b) := (cell_of_blk W6.out (i := 3)).trans rfl
      have x4 : y3.cell? ⟨wr.heap.size, 4, none⟩ = some (.int .i64 c) := (cell_of_blk W6.out (i := 4)).trans rfl
      go_wp2_with fail
      refine (all_rep M6.out.rep OK.out).mono ?_
      rintro e y4 ⟨rfl, hb⟩
      have M7 := Aside0.mk (M6.out.step hb)
      have W7 := Aside0.mk ((hb.block _ (blk_lt W6.out)).trans W6.out)
      clear v0 v1 v2 v3 v4 x0 x1 x2 x3 x4
      clear hb M6 W6
      have v0 : y4.cell? ⟨w.heap.size, 0, none⟩ = some (.int .i64 kd) := (cell_of_blk (M7.out.at VB.out) (i := 0)).trans rfl
      have v1 : y4.cell? ⟨w.heap.size, 1, none⟩ = some (.int .i64 n) := (cell_of_blk (M7.out.at VB.out) (i := 1)).trans rfl
      have v2 : y4.cell? ⟨w.heap.size, 2, none⟩ = some (.string str) := (cell_of_blk (M7.out.at VB.out) (i := 2)).trans rfl
      have v3 : y4.cell? ⟨w.heap.size, 3, none⟩ = some (.bool b) := (cell_of_blk (M7.out.at VB.out) (i := 3)).trans rfl
      have v4 : y4.cell? ⟨w.heap.size, 4, none⟩ = some (.int .i64 c) := (cell_of_blk (M7.out.at VB.out) (i := 4)).trans rfl
      have o0 : y4.cell? ⟨w.heap.size + 1, 0, none⟩ = some (.int .i64 kd') := (cell_of_blk (M7.out.at OB.out) (i := 0)).trans rfl
      have o1 : y4.cell? ⟨w.heap.size + 1, 1, none⟩ = some (.int .i64 n') := (cell_of_blk (M7.out.at OB.out) (i := 1)).trans rfl
      have o2 : y4.cell? ⟨w.heap.size + 1, 2, none⟩ = some (.string str') := (cell_of_blk (M7.out.at OB.out) (i := 2)).trans rfl
      have o3 : y4.cell? ⟨w.heap.size + 1, 3, none⟩ = some (.bool b') := (cell_of_blk (M7.out.at OB.out) (i := 3)).trans rfl
      have o4 : y4.cell? ⟨w.heap.size + 1, 4, none⟩ = some (.int .i64 c') := (cell_of_blk (M7.out.at OB.out) (i := 4)).trans rfl
      obtain ⟨r, ca, hr⟩ := alike_calls (kd, n, str, b, c) (kd', n', str', b', c') y4 OV.out
      have HR := Aside0.mk (fun _ : Unit => hr)
      clear hr
      go_wp2_with fail
      refine ca.mono ?_
      rintro e y5 ⟨rfl, hb⟩
      have M8 := Aside0.mk (M7.out.step hb)
      have W8 := Aside0.mk ((hb.block _ (blk_lt W7.out)).trans W7.out)
      clear hb ca M7 W7
      clear v0 v1 v2 v3 v4 o0 o1 o2 o3 o4
      cases r with
      | true =>
        go_wp2_with fail
        generalize wr.heap.size = g2 at *
        go_loopg [10] i (fun kq v10 w' => ∃ j : Nat, v10 = .int .i64 (j : Int) ∧ Aside0 (j + kq = i) ∧ Aside0 (∃ s', Mine wB (wB.heap.size + 2) s' w' ∧ TOk s' (i + j) (List.replicate kq (Va.held (kd, n, str, b, c))) ∧ w'.heap[g2]? = some (.cells (#[.int .i64 kd, .int .i64 n, .string str, .bool b, .int .i64 c].setIfInBounds 2 (.string (value_Fold.s str))) 25) ∧ ¬ domT (wB.heap.size + 2) s' g2))
        case atStart => exact ⟨0, rfl, ⟨Nat.zero_add _⟩, ⟨s, M8.out, OK.out, W8.out, NT.out⟩⟩
        case round =>
          clear M8 W8 OK NT HI
          obtain ⟨j, rfl, HI, HT⟩ := hrel
          obtain ⟨s', mi, ok, wb, nt⟩ := HT.out
          have MI := Aside0.mk mi
          have OK := Aside0.mk ok
          have WB := Aside0.mk wb
          have NT := Aside0.mk nt
          clear HT mi ok wb nt
          cases gk with
          | zero =>
            have e : j = i := HI.out
            subst e
            have d5 : decide ((j : Int) < (j : Int)) = false := decide_eq_false (by omega)
            clear WB NT
            have v0 : wr.cell? ⟨w.heap.size, 0, none⟩ = some (.int .i64 kd) := (cell_of_blk (MI.out.at VB.out) (i := 0)).trans rfl
            have v1 : wr.cell? ⟨w.heap.size, 1, none⟩ = some (.int .i64 n) := (cell_of_blk (MI.out.at VB.out) (i := 1)).trans rfl
            have v2 : wr.cell? ⟨w.heap.size, 2, none⟩ = some (.string str) := (cell_of_blk (MI.out.at VB.out) (i := 2)).trans rfl
            have v3 : wr.cell? ⟨w.heap.size, 3, none⟩ = some (.bool b) := (cell_of_blk (MI.out.at VB.out) (i := 3)).trans rfl
            have v4 : wr.cell? ⟨w.heap.size, 4, none⟩ = some (.int .i64 c) := (cell_of_blk (MI.out.at VB.out) (i := 4)).trans rfl
            go_wp2_with fail
            refine (drop_out (x := (kd, n, str, b, c)) MI.out.rep OK.out OV.out (by simp)).mono ?_
            rintro e z1 ⟨rfl, hb⟩
            have N1 := Aside0.mk (MI.out.step hb)
            clear hb v0 v1 v2 v3 v4 MI
            go_wp2_with fail
            refine (all_rep (x := Va.held (kd, n, str, b, c)) (i := 0) N1.out.rep OK.out).mono ?_
            rintro e z2 ⟨rfl, hb⟩
            have N2 := Aside0.mk (N1.out.step hb)
            clear hb N1
            have v0 : z2.cell? ⟨w.heap.size, 0, none⟩ = some (.int .i64 kd) := (cell_of_blk (N2.out.at VB.out) (i := 0)).trans rfl
            have v1 : z2.cell? ⟨w.heap.size, 1, none⟩ = some (.int .i64 n) := (cell_of_blk (N2.out.at VB.out) (i := 1)).trans rfl
            have v2 : z2.cell? ⟨w.heap.size, 2, none⟩ = some (.string str) := (cell_of_blk (N2.out.at VB.out) (i := 2)).trans rfl
            have v3 : z2.cell? ⟨w.heap.size, 3, none⟩ = some (.bool b) := (cell_of_blk (N2.out.at VB.out) (i := 3)).trans rfl
            have v4 : z2.cell? ⟨w.heap.size, 4, none⟩ = some (.int .i64 c) := (cell_of_blk (N2.out.at VB.out) (i := 4)).trans rfl
            go_wp2_with fail
            refine (often_rep (x := (kd, n, str, b, c)) (y := (kd, n, str, b, c)) (i := 0) N2.out.rep OK.out OV.out rfl).mono ?_
            rintro e z3 ⟨rfl, hb⟩
            have N3 := Aside0.mk (N2.out.step hb)
            clear hb N2 v0 v1 v2 v3 v4
            go_wp2_with fail
            with_reducible refine (lives_calls _).mono ?_
            rintro e z4 ⟨rfl, hb⟩
            have Z4 := Aside0.mk (below_step2 BB.out (below_step2 N3.out.below hb))
            clear hb N3
            go_wp2
            go_ret
            exact ⟨rfl, Z4.out⟩
          | succ k1 =>
            have lt : j < i := by have := HI.out; omega
            have d5 : decide ((j : Int) < (i : Int)) = true := decide_eq_true (by omega)
            have d6 : decide (j < i) = true := decide_eq_true lt
            have wi : wrap64 ((j : Int) + 1) = ((j + 1 : Nat) : Int) := by have := HN.out; unfold wrap64; omega
            have WI := Aside0.mk wi
            clear wi lt
            have x0 : wr.cell? ⟨g2, 0, none⟩ = some (.int .i64 kd) := (cell_of_blk WB.out (i := 0)).trans rfl
            have x1 : wr.cell? ⟨g2, 1, none⟩ = some (.int .i64 n) := (cell_of_blk WB.out (i := 1)).trans rfl
            have x2 : wr.cell? ⟨g2, 2, none⟩ = some (.string (value_Fold.s str)) := (cell_of_blk WB.out (i := 2)).trans rfl
            have x3 : wr.cell? ⟨g2, 3, none⟩ = some (.bool b) := (cell_of_blk WB.out (i := 3)).trans rfl
            have x4 : wr.cell? ⟨g2, 4, none⟩ = some (.int .i64 c) := (cell_of_blk WB.out (i := 4)).trans rfl
            go_wp2_with fail
            refine (drop_ok (x := Va.held (kd, n, str, b, c)) (M := List.replicate k1 (Va.held (kd, n, str, b, c))) MI.out.rep OK.out (ok_held OV.out) (by rw [held_held]; exact .refl _) (by have := HI.out; have := HN.out; omega)).mono ?_
            rintro e z1 ⟨rfl, s2, tw, ok2⟩
            have bs := beside_step tw WB.out NT.out
            have N1 := Aside0.mk (⟨s2, MI.out.tw tw, ok2, bs.1, bs.2⟩ : ∃ s2, Mine wB (wB.heap.size + 2) s2 z1 ∧ TOk s2 (i + j + 1) (List.replicate k1 (Va.held (kd, n, str, b, c))) ∧ z1.heap[g2]? = some (.cells (#[.int .i64 kd, .int .i64 n, .string str, .bool b, .int .i64 c].setIfInBounds 2 (.string (value_Fold.s str))) 25) ∧ ¬ domT (wB.heap.size + 2) s2 g2)
            clear tw ok2 bs x0 x1 x2 x3 x4 WB NT
            go_wp2_with fail
            go_roundg k1
            case measure => omega
            case rel => exact ⟨j + 1, by rw [WI.out], ⟨by have := HI.out; omega⟩, N1⟩
      | false =>
        have o0 : y5.cell? ⟨w.heap.size + 1, 0, none⟩ = some (.int .i64 kd') := (cell_of_blk (M8.out.at OB.out) (i := 0)).trans rfl
        have o1 : y5.cell? ⟨w.heap.size + 1, 1, none⟩ = some (.int .i64 n') := (cell_of_blk (M8.out.at OB.out) (i := 1)).trans rfl
        have o2 : y5.cell? ⟨w.heap.size + 1, 2, none⟩ = some (.string str') := (cell_of_blk (M8.out.at OB.out) (i := 2)).trans rfl
        have o3 : y5.cell? ⟨w.heap.size + 1, 3, none⟩ = some (.bool b') := (cell_of_blk (M8.out.at OB.out) (i := 3)).trans rfl
        have o4 : y5.cell? ⟨w.heap.size + 1, 4, none⟩ = some (.int .i64 c') := (cell_of_blk (M8.out.at OB.out) (i := 4)).trans rfl
        go_wp2_with fail
        refine (often_else (x := (kd, n, str, b, c)) (y := (kd', n', str', b', c')) M8.out.rep OK.out (HR.out () trivial)).mono ?_
        rintro e y6 ⟨rfl, hb⟩
        have M9 := Aside0.mk (M8.out.step hb)
        have W9 := Aside0.mk ((hb.block _ (blk_lt W8.out)).trans W8.out)
        clear hb M8 W8
        go_wp2_with fail
        generalize wr.heap.size = g2 at *
        go_loopg [10] i (fun kq v10 w' => ∃ j : Nat, v10 = .int .i64 (j : Int) ∧ Aside0 (j + kq = i) ∧ Aside0 (∃ s', Mine wB (wB.heap.size + 2) s' w' ∧ TOk s' (i + j) (List.replicate kq (Va.held (kd, n, str, b, c))) ∧ w'.heap[g2]? = some (.cells (#[.int .i64 kd, .int .i64 n, .string str, .bool b, .int .i64 c].setIfInBounds 2 (.string (value_Fold.s str))) 25) ∧ ¬ domT (wB.heap.size + 2) s' g2))
        case atStart => exact ⟨0, rfl, ⟨Nat.zero_add _⟩, ⟨s, M9.out, OK.out, W9.out, NT.out⟩⟩
        case round =>
          clear M9 W9 OK NT HI
          obtain ⟨j, rfl, HI, HT⟩ := hrel
          obtain ⟨s', mi, ok, wb, nt⟩ := HT.out
          have MI := Aside0.mk mi
          have OK := Aside0.mk ok
          have WB := Aside0.mk wb
          have NT := Aside0.mk nt
          clear HT mi ok wb nt
          cases gk with
          | zero =>
            have e : j = i := HI.out
            subst e
            have d5 : decide ((j : Int) < (j : Int)) = false := decide_eq_false (by omega)
            clear WB NT
            have v0 : wr.cell? ⟨w.heap.size, 0, none⟩ = some (.int .i64 kd) := (cell_of_blk (MI.out.at VB.out) (i := 0)).trans rfl
            have v1 : wr.cell? ⟨w.heap.size, 1, none⟩ = some (.int .i64 n) := (cell_of_blk (MI.out.at VB.out) (i := 1)).trans rfl
            have v2 : wr.cell? ⟨w.heap.size, 2, none⟩ = some (.string str) := (cell_of_blk (MI.out.at VB.out) (i := 2)).trans rfl
            have v3 : wr.cell? ⟨w.heap.size, 3, none⟩ = some (.bool b) := (cell_of_blk (MI.out.at VB.out) (i := 3)).trans rfl
            have v4 : wr.cell? ⟨w.heap.size, 4, none⟩ = some (.int .i64 c) := (cell_of_blk (MI.out.at VB.out) (i := 4)).trans rfl
            go_wp2_with fail
            refine (drop_out (x := (kd, n, str, b, c)) MI.out.rep OK.out OV.out (by simp)).mono ?_
            rintro e z1 ⟨rfl, hb⟩
            have N1 := Aside0.mk (MI.out.step hb)
            clear hb v0 v1 v2 v3 v4 MI
            go_wp2_with fail
            refine (all_rep (x := Va.held (kd, n, str, b, c)) (i := 0) N1.out.rep OK.out).mono ?_
            rintro e z2 ⟨rfl, hb⟩
            have N2 := Aside0.mk (N1.out.step hb)
            clear hb N1
            have v0 : z2.cell? ⟨w.heap.size, 0, none⟩ = some (.int .i64 kd) := (cell_of_blk (N2.out.at VB.out) (i := 0)).trans rfl
            have v1 : z2.cell? ⟨w.heap.size, 1, none⟩ = some (.int .i64 n) := (cell_of_blk (N2.out.at VB.out) (i := 1)).trans rfl
            have v2 : z2.cell? ⟨w.heap.size, 2, none⟩ = some (.string str) := (cell_of_blk (N2.out.at VB.out) (i := 2)).trans rfl
            have v3 : z2.cell? ⟨w.heap.size, 3, none⟩ = some (.bool b) := (cell_of_blk (N2.out.at VB.out) (i := 3)).trans rfl
            have v4 : z2.cell? ⟨w.heap.size, 4, none⟩ = some (.int .i64 c) := (cell_of_blk (N2.out.at VB.out) (i := 4)).trans rfl
            go_wp2_with fail
            refine (often_rep (x := (kd, n, str, b, c)) (y := (kd, n, str, b, c)) (i := 0) N2.out.rep OK.out OV.out rfl).mono ?_
            rintro e z3 ⟨rfl, hb⟩
            have N3 := Aside0.mk (N2.out.step hb)
            clear hb N2 v0 v1 v2 v3 v4
            go_wp2_with fail
            with_reducible refine (lives_calls _).mono ?_
            rintro e z4 ⟨rfl, hb⟩
            have Z4 := Aside0.mk (below_step2 BB.out (below_step2 N3.out.below hb))
            clear hb N3
            go_wp2
            go_ret
            exact ⟨rfl, Z4.out⟩
          | succ k1 =>
            have lt : j < i := by have := HI.out; omega
            have d5 : decide ((j : Int) < (i : Int)) = true := decide_eq_true (by omega)
            have d6 : decide (j < i) = true := decide_eq_true lt
            have wi : wrap64 ((j : Int) + 1) = ((j + 1 : Nat) : Int) := by have := HN.out; unfold wrap64; omega
            have WI := Aside0.mk wi
            clear wi lt
            have x0 : wr.cell? ⟨g2, 0, none⟩ = some (.int .i64 kd) := (cell_of_blk WB.out (i := 0)).trans rfl
            have x1 : wr.cell? ⟨g2, 1, none⟩ = some (.int .i64 n) := (cell_of_blk WB.out (i := 1)).trans rfl
            have x2 : wr.cell? ⟨g2, 2, none⟩ = some (.string (value_Fold.s str)) := (cell_of_blk WB.out (i := 2)).trans rfl
            have x3 : wr.cell? ⟨g2, 3, none⟩ = some (.bool b) := (cell_of_blk WB.out (i := 3)).trans rfl
            have x4 : wr.cell? ⟨g2, 4, none⟩ = some (.int .i64 c) := (cell_of_blk WB.out (i := 4)).trans rfl
            go_wp2_with fail
            refine (drop_ok (x := Va.held (kd, n, str, b, c)) (M := List.replicate k1 (Va.held (kd, n, str, b, c))) MI.out.rep OK.out (ok_held OV.out) (by rw [held_held]; exact .refl _) (by have := HI.out; have := HN.out; omega)).mono ?_
            rintro e z1 ⟨rfl, s2, tw, ok2⟩
            have bs := beside_step tw WB.out NT.out
            have N1 := Aside0.mk (⟨s2, MI.out.tw tw, ok2, bs.1, bs.2⟩ : ∃ s2, Mine wB (wB.heap.size + 2) s2 z1 ∧ TOk s2 (i + j + 1) (List.replicate k1 (Va.held (kd, n, str, b, c))) ∧ z1.heap[g2]? = some (.cells (#[.int .i64 kd, .int .i64 n, .string str, .bool b, .int .i64 c].setIfInBounds 2 (.string (value_Fold.s str))) 25) ∧ ¬ domT (wB.heap.size + 2) s2 g2)
            clear tw ok2 bs x0 x1 x2 x3 x4 WB NT
            go_wp2_with fail
            go_roundg k1
            case measure => omega
            case rel => exact ⟨j + 1, by rw [WI.out], ⟨by have := HI.out; omega⟩, N1⟩
    | succ k1 =>
      have lt : i < N := by have := HI.out; omega
      have d3 : decide ((i : Int) < (N : Int)) = true := decide_eq_true (by omega)
      have d4 : decide (i < N) = true := decide_eq_true lt
      have wi : wrap64 ((i : Int) + 1) = ((i + 1 : Nat) : Int) := by have := HN.out; unfold wrap64; omega
      have WI := Aside0.mk wi
      have VI := Aside0.mk (MI.out.at VB.out)
      have v0 := (cell_of_blk VI.out (i := 0)).trans rfl
      have v1 := (cell_of_blk VI.out (i := 1)).trans rfl
      have v2 := (cell_of_blk VI.out (i := 2)).trans rfl
      have v3 := (cell_of_blk VI.out (i := 3)).trans rfl
      have v4 := (cell_of_blk VI.out (i := 4)).trans rfl
      clear wi lt
      go_wp2_with fail
      refine (add_ok (x := (kd, n, str, b, c)) MI.out.rep OK.out OV.out (by rw [List.length_replicate]; have := HI.out; have := HN.out; omega) (by have := HI.out; have := HN.out; omega)).mono ?_
      rintro e w3 ⟨rfl, s', tw, ok'⟩
      have M3 := Aside0.mk (⟨s', MI.out.tw tw, ok'⟩ : ∃ s', Mine wB (wB.heap.size + 2) s' w3 ∧ TOk s' (i + 1) (List.replicate (i + 1) (Va.held (kd, n, str, b, c))))
      clear tw ok' v0 v1 v2 v3 v4 VI
      go_wp2_with fail
      go_roundg k1
      case measure => omega
      case rel => exact ⟨i + 1, by rw [WI.out], ⟨by have := HI.out; omega⟩, M3⟩
set_option maxHeartbeats 3200000 in
set_option maxRecDepth 100000 in
theorem often_out (kd n : Int) (str : ByteArray) (b : Bool) (c : Int) (m : Int) (kd' n' : Int) (str' : ByteArray) (b' : Bool) (c' : Int) (w : World) (h : m < 0 ∨ 100 < m ∨ ¬ Va.ok (kd, n, str, b, c)) : Calls Try.prog 6 #[.agg #[.int .i64 kd, .int .i64 n, .string str, .bool b, .int .i64 c], .int .i64 m, .agg #[.int .i64 kd', .int .i64 n', .string str', .bool b', .int .i64 c']] w fun e w' => e = .returned (.bool true) ∧ Below w.heap.size w w' := by
  have hu25 := Try.underlying25
  have B0 := Aside0.mk (below_alloc (below_alloc (Below.refl w.heap.size w) (.cells #[.int .i64 kd, .int .i64 n, .string str, .bool b, .int .i64 c] 25)) (.cells #[.int .i64 kd', .int .i64 n', .string str', .bool b', .int .i64 c'] 25))
  by_cases c1 : m < 0
  · have d1 : decide (m < 0) = true := decide_eq_true c1
    clear c1 h
    go_enter Try.func6, Try.ntmps6
    go_wp2_with fail
    with_reducible refine (lives_calls _).mono ?_
    rintro e w1 ⟨rfl, b1⟩
    have B1 := Aside0.mk (below_step2 B0.out b1)
    clear b1
    go_wp2
    go_ret
    exact ⟨rfl, B1.out⟩
  have d1 : decide (m < 0) = false := decide_eq_false c1
  by_cases c2 : 100 < m
  · have d2 : decide (100 < m) = true := decide_eq_true c2
    clear c1 c2 h
    go_enter Try.func6, Try.ntmps6
    go_wp2_with fail
    with_reducible refine (lives_calls _).mono ?_
    rintro e w1 ⟨rfl, b1⟩
    have B1 := Aside0.mk (below_step2 B0.out b1)
    clear b1
    go_wp2
    go_ret
    exact ⟨rfl, B1.out⟩
  have d2 : decide (100 < m) = false := decide_eq_false c2
  have OV := Aside0.mk ((h.resolve_left c1).resolve_left c2)
  clear c1 c2 h
  go_enter Try.func6, Try.ntmps6
  go_wp2_with fail
  generalize (w.alloc (.cells #[.int .i64 kd, .int .i64 n, .string str, .bool b, .int .i64 c] 25)).alloc (.cells #[.int .i64 kd', .int .i64 n', .string str', .bool b', .int .i64 c'] 25) = w0 at *
  have ck := check_calls (w := w0) (kd, n, str, b, c)
  rw [if_neg OV.out] at ck
  refine ck.mono ?_
  rintro e wB ⟨rfl, hb⟩
  have BB := Aside0.mk (below_step2 B0.out hb)
  clear hb B0 ck
  go_wp2_with fail
  with_reducible refine (lives_calls _).mono ?_
  rintro e w1 ⟨rfl, b1⟩
  have B1 := Aside0.mk (below_step2 BB.out b1)
  clear b1
  go_wp2
  go_ret
  exact ⟨rfl, B1.out⟩
theorem often_all (kd n : Int) (str : ByteArray) (b : Bool) (c : Int) (m : Int) (kd' n' : Int) (str' : ByteArray) (b' : Bool) (c' : Int) (w : World) : Calls Try.prog 6 #[.agg #[.int .i64 kd, .int .i64 n, .string str, .bool b, .int .i64 c], .int .i64 m, .agg #[.int .i64 kd', .int .i64 n', .string str', .bool b', .int .i64 c']] w fun e w' => e = .returned (.bool true) ∧ Below w.heap.size w w' := by
  by_cases h : m < 0 ∨ 100 < m ∨ ¬ Va.ok (kd, n, str, b, c)
  · exact often_out kd n str b c m kd' n' str' b' c' w h
  · simp only [not_or] at h
    obtain ⟨h1, h2, h3⟩ := h
    have r := often_walk kd n str b c m.toNat kd' n' str' b' c' w (by omega) (Decidable.not_not.1 h3)
    rw [show ((m.toNat : Nat) : Int) = m by omega] at r
    exact r
end Go.Proofs.Ytlglopainaploaa.Tal
