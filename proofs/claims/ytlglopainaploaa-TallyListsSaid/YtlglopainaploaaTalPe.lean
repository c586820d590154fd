/- A value is put in, kind by kind. A text is put in. How often a value is there, kind by kind. A value is taken out, kind by kind. -/
import Derived.Test.YtlglopainaploaaTalPb
import Derived.Test.YtlglopainaploaaPLx1
/-! A value is put in, kind by kind. -/
namespace Go.Proofs.Ytlglopainaploaa.Tal
open Go.RowKit Go.Proofs.YtlglopainaploaaW.PrintWords Go.Proofs.YtlglopainaploaaW.PrintLast Go.Proofs.YtlglopainaploaaW.PrintMore
open Go.Proofs.Ytlglopainaploaa.PL
set_option linter.unusedVariables false
set_option linter.unusedSimpArgs false

set_option maxHeartbeats 3200000 in
set_option maxRecDepth 100000 in
theorem add_fault {w : World} {t : Nat} {s : TS} {n : Int} {str : ByteArray} {b : Bool} {c : Nat} (h : TRep w t s) (hv : value_Check.f 4 n str b ((c : Int)) = some 0) (ha : s.all < 4096) (hc : c < 8) :
    Calls Try.prog 14 #[.pointer (some ⟨t, 0, none⟩), .agg #[.int .i64 4, .int .i64 n, .string str, .bool b, .int .i64 (c : Int)]] w fun e w' => e = .returned (.int .i64 0) ∧
      TW w t s w' { s.plus 4 1 with fs := up s.fs c (wrap64 (s.fs c + 1)) } := by
  have hu25 := Try.underlying25
  have T0 := Aside0.mk ((TW.refl h).alloc (.cells #[.int .i64 4, .int .i64 n, .string str, .bool b, .int .i64 (c : Int)] 25))
  have B0 := Aside0.mk (blk_alloc_new w (.cells #[.int .i64 4, .int .i64 n, .string str, .bool b, .int .i64 (c : Int)] 25))
  have HV := Aside0.mk hv
  have d1 : decide (4096 ≤ s.all) = false := decide_eq_false (by omega)
  have HC := Aside0.mk hc
  clear hc
  clear h hv ha
  go_enter Try.func14, Try.ntmps14
  go_upto_region 6 with (first | (go_at_call 50; with_reducible refine (made_calls T0.out.rep).mono ?_; rintro e w' ⟨rfl, rfl⟩) | (go_at_call 33; with_reducible refine (value_Check.calls _ _ _ _ _ _ _ HV.out).mono ?_; rintro e w1 ⟨rfl, hb⟩; have T1 := Aside0.mk (T0.out.below hb); have B1 := Aside0.mk ((hb.block w.heap.size (by simp)).trans B0.out); clear hb))
  have nv : ¬ w.heap.size = t := fun e => by
    have a := B1.out
    rw [e, T1.out.rep.tb] at a
    have := Obj.cells.inj (Option.some.inj a)
    exact absurd this.2.1 (by decide)
  have nv' : ¬ t = w.heap.size := fun e => nv e.symm
  have ca := T1.out.rep.ca
  have fa := T1.out.rep.free 19
  have T2 := Aside0.mk (T1.out.all (wrap64 (s.all + 1)))
  have B2 := Aside0.mk ((blk_set_ne (w := w1) (b := t) (i := 19) nv (.int .i64 (wrap64 (s.all + 1)))).trans B1.out)
  clear T1 B1 B0 T0
  go_upto_region 9 with (fail)
  generalize w1.setCell ⟨t, 19, none⟩ (.int .i64 (wrap64 (s.all + 1))) = w2 at *
  clear ca fa
  have v0 : w2.cell? ⟨w.heap.size, 0, none⟩ = some (.int .i64 4) := (cell_of_blk B2.out).trans rfl
  have ck := T2.out.rep.ck (i := 4) (by decide)
  have fk := T2.out.rep.free 18
  simp only [Nat.reduceAdd] at ck
  have T3 := Aside0.mk (T2.out.ks (i := 4) (by decide) (wrap64 (s.ks 4 + 1))).drew
  have B3 := Aside0.mk ((blk_set_ne (w := w2) (b := t) (i := 18) nv (.int .i64 (wrap64 (s.ks 4 + 1)))).trans B2.out)
  clear T2 B2
  go_wp2_with fail
  go_region
  have B4 : Aside0 ((w2.setCell ⟨t, 18, none⟩ (.int .i64 (wrap64 (s.ks 4 + 1)))).drew.heap[w.heap.size]? = some (.cells #[.int .i64 4, .int .i64 n, .string str, .bool b, .int .i64 (c : Int)] 25)) := B3
  clear B3 v0 ck fk
  have T4 : Aside0 (TW w t s (w2.setCell ⟨t, 18, none⟩ (.int .i64 (wrap64 (s.ks 4 + 1)))).drew (s.plus 4 1)) := T3
  clear T3
  generalize (w2.setCell ⟨t, 18, none⟩ (.int .i64 (wrap64 (s.ks 4 + 1)))).drew = w3 at *
  have v0 : w3.cell? ⟨w.heap.size, 0, none⟩ = some (.int .i64 4) := (cell_of_blk B4.out).trans rfl
  have v1 : w3.cell? ⟨w.heap.size, 1, none⟩ = some (.int .i64 n) := (cell_of_blk B4.out).trans rfl
  have v2 : w3.cell? ⟨w.heap.size, 2, none⟩ = some (.string str) := (cell_of_blk B4.out).trans rfl
  have v3 : w3.cell? ⟨w.heap.size, 3, none⟩ = some (.bool b) := (cell_of_blk B4.out).trans rfl
  have v4 : w3.cell? ⟨w.heap.size, 4, none⟩ = some (.int .i64 (c : Int)) := (cell_of_blk B4.out).trans rfl
  have cf : w3.cell? ⟨t, 6 + c, none⟩ = some (.int .i64 (s.fs c)) := T4.out.rep.cf HC.out
  have ff := T4.out.rep.free (6 + c)
  have p1 : (0 ≤ (c : Int)) = True := eq_true (by omega)
  have p2 : ((c : Int) < 8) = True := eq_true (by have := HC.out; omega)
  have T5 := Aside0.mk (T4.out.fs HC.out (wrap64 (s.fs c + 1))).drew
  clear T4 B4
  go_wp2_with fail
  go_region
  go_wp2
  go_ret
  exact ⟨rfl, T5.out⟩
set_option maxHeartbeats 3200000 in
set_option maxRecDepth 100000 in
theorem add_blank {w : World} {t : Nat} {s : TS} {n : Int} {str : ByteArray} {b : Bool} {c : Int} (h : TRep w t s) (hv : value_Check.f 0 n str b c = some 0) (ha : s.all < 4096) :
    Calls Try.prog 14 #[.pointer (some ⟨t, 0, none⟩), .agg #[.int .i64 0, .int .i64 n, .string str, .bool b, .int .i64 c]] w fun e w' => e = .returned (.int .i64 0) ∧
      TW w t s w' (s.plus 0 1) := by
  have hu25 := Try.underlying25
  have T0 := Aside0.mk ((TW.refl h).alloc (.cells #[.int .i64 0, .int .i64 n, .string str, .bool b, .int .i64 c] 25))
  have B0 := Aside0.mk (blk_alloc_new w (.cells #[.int .i64 0, .int .i64 n, .string str, .bool b, .int .i64 c] 25))
  have HV := Aside0.mk hv
  have d1 : decide (4096 ≤ s.all) = false := decide_eq_false (by omega)
  clear h hv ha
  go_enter Try.func14, Try.ntmps14
  go_upto_region 6 with (first | (go_at_call 50; with_reducible refine (made_calls T0.out.rep).mono ?_; rintro e w' ⟨rfl, rfl⟩) | (go_at_call 33; with_reducible refine (value_Check.calls _ _ _ _ _ _ _ HV.out).mono ?_; rintro e w1 ⟨rfl, hb⟩; have T1 := Aside0.mk (T0.out.below hb); have B1 := Aside0.mk ((hb.block w.heap.size (by simp)).trans B0.out); clear hb))
  have nv : ¬ w.heap.size = t := fun e => by
    have a := B1.out
    rw [e, T1.out.rep.tb] at a
    have := Obj.cells.inj (Option.some.inj a)
    exact absurd this.2.1 (by decide)
  have nv' : ¬ t = w.heap.size := fun e => nv e.symm
  have ca := T1.out.rep.ca
  have fa := T1.out.rep.free 19
  have T2 := Aside0.mk (T1.out.all (wrap64 (s.all + 1)))
  have B2 := Aside0.mk ((blk_set_ne (w := w1) (b := t) (i := 19) nv (.int .i64 (wrap64 (s.all + 1)))).trans B1.out)
  clear T1 B1 B0 T0
  go_upto_region 9 with (fail)
  generalize w1.setCell ⟨t, 19, none⟩ (.int .i64 (wrap64 (s.all + 1))) = w2 at *
  clear ca fa
  have v0 : w2.cell? ⟨w.heap.size, 0, none⟩ = some (.int .i64 0) := (cell_of_blk B2.out).trans rfl
  have ck := T2.out.rep.ck (i := 0) (by decide)
  have fk := T2.out.rep.free 14
  simp only [Nat.reduceAdd] at ck
  have T3 := Aside0.mk (T2.out.ks (i := 0) (by decide) (wrap64 (s.ks 0 + 1))).drew
  have B3 := Aside0.mk ((blk_set_ne (w := w2) (b := t) (i := 14) nv (.int .i64 (wrap64 (s.ks 0 + 1)))).trans B2.out)
  clear T2 B2
  go_wp2_with fail
  go_region
  have B4 : Aside0 ((w2.setCell ⟨t, 14, none⟩ (.int .i64 (wrap64 (s.ks 0 + 1)))).drew.heap[w.heap.size]? = some (.cells #[.int .i64 0, .int .i64 n, .string str, .bool b, .int .i64 c] 25)) := B3
  clear B3 v0 ck fk
  have T4 : Aside0 (TW w t s (w2.setCell ⟨t, 14, none⟩ (.int .i64 (wrap64 (s.ks 0 + 1)))).drew (s.plus 0 1)) := T3
  clear T3
  generalize (w2.setCell ⟨t, 14, none⟩ (.int .i64 (wrap64 (s.ks 0 + 1)))).drew = w3 at *
  have v0 : w3.cell? ⟨w.heap.size, 0, none⟩ = some (.int .i64 0) := (cell_of_blk B4.out).trans rfl
  have v1 : w3.cell? ⟨w.heap.size, 1, none⟩ = some (.int .i64 n) := (cell_of_blk B4.out).trans rfl
  have v2 : w3.cell? ⟨w.heap.size, 2, none⟩ = some (.string str) := (cell_of_blk B4.out).trans rfl
  have v3 : w3.cell? ⟨w.heap.size, 3, none⟩ = some (.bool b) := (cell_of_blk B4.out).trans rfl
  have v4 : w3.cell? ⟨w.heap.size, 4, none⟩ = some (.int .i64 c) := (cell_of_blk B4.out).trans rfl
  clear B4
  go_wp2
  go_ret
  exact ⟨rfl, T4.out⟩
theorem place_same (b : Bool) (w : World) : Calls Try.prog 52 #[.bool b] w fun e w' => e = .returned (.int .i64 (if b = true then 1 else 0)) ∧ w' = w := by
  cases b
  · go_enter Try.func52, Try.ntmps52
    go_wp2
    go_ret
    exact ⟨rfl, rfl⟩
  · go_enter Try.func52, Try.ntmps52
    go_wp2
    go_ret
    exact ⟨rfl, rfl⟩
set_option maxHeartbeats 3200000 in
set_option maxRecDepth 100000 in
theorem add_true {w : World} {t : Nat} {s : TS} {n : Int} {str : ByteArray} {c : Int} (h : TRep w t s) (hv : value_Check.f 3 n str true c = some 0) (ha : s.all < 4096) :
    Calls Try.prog 14 #[.pointer (some ⟨t, 0, none⟩), .agg #[.int .i64 3, .int .i64 n, .string str, .bool true, .int .i64 c]] w fun e w' => e = .returned (.int .i64 0) ∧
      TW w t s w' { s.plus 3 1 with tr := up s.tr 1 (wrap64 (s.tr 1 + 1)) } := by
  have hu25 := Try.underlying25
  have T0 := Aside0.mk ((TW.refl h).alloc (.cells #[.int .i64 3, .int .i64 n, .string str, .bool true, .int .i64 c] 25))
  have B0 := Aside0.mk (blk_alloc_new w (.cells #[.int .i64 3, .int .i64 n, .string str, .bool true, .int .i64 c] 25))
  have HV := Aside0.mk hv
  have d1 : decide (4096 ≤ s.all) = false := decide_eq_false (by omega)
  clear h hv ha
  go_enter Try.func14, Try.ntmps14
  go_upto_region 6 with (first | (go_at_call 50; with_reducible refine (made_calls T0.out.rep).mono ?_; rintro e w' ⟨rfl, rfl⟩) | (go_at_call 33; with_reducible refine (value_Check.calls _ _ _ _ _ _ _ HV.out).mono ?_; rintro e w1 ⟨rfl, hb⟩; have T1 := Aside0.mk (T0.out.below hb); have B1 := Aside0.mk ((hb.block w.heap.size (by simp)).trans B0.out); clear hb))
  have nv : ¬ w.heap.size = t := fun e => by
    have a := B1.out
    rw [e, T1.out.rep.tb] at a
    have := Obj.cells.inj (Option.some.inj a)
    exact absurd this.2.1 (by decide)
  have nv' : ¬ t = w.heap.size := fun e => nv e.symm
  have ca := T1.out.rep.ca
  have fa := T1.out.rep.free 19
  have T2 := Aside0.mk (T1.out.all (wrap64 (s.all + 1)))
  have B2 := Aside0.mk ((blk_set_ne (w := w1) (b := t) (i := 19) nv (.int .i64 (wrap64 (s.all + 1)))).trans B1.out)
  clear T1 B1 B0 T0
  go_upto_region 9 with (fail)
  generalize w1.setCell ⟨t, 19, none⟩ (.int .i64 (wrap64 (s.all + 1))) = w2 at *
  clear ca fa
  have v0 : w2.cell? ⟨w.heap.size, 0, none⟩ = some (.int .i64 3) := (cell_of_blk B2.out).trans rfl
  have ck := T2.out.rep.ck (i := 3) (by decide)
  have fk := T2.out.rep.free 17
  simp only [Nat.reduceAdd] at ck
  have T3 := Aside0.mk (T2.out.ks (i := 3) (by decide) (wrap64 (s.ks 3 + 1))).drew
  have B3 := Aside0.mk ((blk_set_ne (w := w2) (b := t) (i := 17) nv (.int .i64 (wrap64 (s.ks 3 + 1)))).trans B2.out)
  clear T2 B2
  go_wp2_with fail
  go_region
  have B4 : Aside0 ((w2.setCell ⟨t, 17, none⟩ (.int .i64 (wrap64 (s.ks 3 + 1)))).drew.heap[w.heap.size]? = some (.cells #[.int .i64 3, .int .i64 n, .string str, .bool true, .int .i64 c] 25)) := B3
  clear B3 v0 ck fk
  have T4 : Aside0 (TW w t s (w2.setCell ⟨t, 17, none⟩ (.int .i64 (wrap64 (s.ks 3 + 1)))).drew (s.plus 3 1)) := T3
  clear T3
  generalize (w2.setCell ⟨t, 17, none⟩ (.int .i64 (wrap64 (s.ks 3 + 1)))).drew = w3 at *
  have v0 : w3.cell? ⟨w.heap.size, 0, none⟩ = some (.int .i64 3) := (cell_of_blk B4.out).trans rfl
  have v1 : w3.cell? ⟨w.heap.size, 1, none⟩ = some (.int .i64 n) := (cell_of_blk B4.out).trans rfl
  have v2 : w3.cell? ⟨w.heap.size, 2, none⟩ = some (.string str) := (cell_of_blk B4.out).trans rfl
  have v3 : w3.cell? ⟨w.heap.size, 3, none⟩ = some (.bool true) := (cell_of_blk B4.out).trans rfl
  have v4 : w3.cell? ⟨w.heap.size, 4, none⟩ = some (.int .i64 c) := (cell_of_blk B4.out).trans rfl
  have ct := T4.out.rep.ct (i := 1) (by decide)
  have ft := T4.out.rep.free 5
  simp only [Nat.reduceAdd] at ct
  have T5 := Aside0.mk (T4.out.tr (i := 1) (by decide) (wrap64 (s.tr 1 + 1))).drew
  clear T4 B4
  go_wp2_with fail
  go_still_tail 12, (by kernel_rfl)
  still_call (place_same _ _)
  repeat still_step
  refine wpStill_nil ?_
  go_wp2
  go_ret
  exact ⟨rfl, T5.out⟩
set_option maxHeartbeats 3200000 in
set_option maxRecDepth 100000 in
theorem add_false {w : World} {t : Nat} {s : TS} {n : Int} {str : ByteArray} {c : Int} (h : TRep w t s) (hv : value_Check.f 3 n str false c = some 0) (ha : s.all < 4096) :
    Calls Try.prog 14 #[.pointer (some ⟨t, 0, none⟩), .agg #[.int .i64 3, .int .i64 n, .string str, .bool false, .int .i64 c]] w fun e w' => e = .returned (.int .i64 0) ∧
      TW w t s w' { s.plus 3 1 with tr := up s.tr 0 (wrap64 (s.tr 0 + 1)) } := by
  have hu25 := Try.underlying25
  have T0 := Aside0.mk ((TW.refl h).alloc (.cells #[.int .i64 3, .int .i64 n, .string str, .bool false, .int .i64 c] 25))
  have B0 := Aside0.mk (blk_alloc_new w (.cells #[.int .i64 3, .int .i64 n, .string str, .bool false, .int .i64 c] 25))
  have HV := Aside0.mk hv
  have d1 : decide (4096 ≤ s.all) = false := decide_eq_false (by omega)
  clear h hv ha
  go_enter Try.func14, Try.ntmps14
  go_upto_region 6 with (first | (go_at_call 50; with_reducible refine (made_calls T0.out.rep).mono ?_; rintro e w' ⟨rfl, rfl⟩) | (go_at_call 33; with_reducible refine (value_Check.calls _ _ _ _ _ _ _ HV.out).mono ?_; rintro e w1 ⟨rfl, hb⟩; have T1 := Aside0.mk (T0.out.below hb); have B1 := Aside0.mk ((hb.block w.heap.size (by simp)).trans B0.out); clear hb))
  have nv : ¬ w.heap.size = t := fun e => by
    have a := B1.out
    rw [e, T1.out.rep.tb] at a
    have := Obj.cells.inj (Option.some.inj a)
    exact absurd this.2.1 (by decide)
  have nv' : ¬ t = w.heap.size := fun e => nv e.symm
  have ca := T1.out.rep.ca
  have fa := T1.out.rep.free 19
  have T2 := Aside0.mk (T1.out.all (wrap64 (s.all + 1)))
  have B2 := Aside0.mk ((blk_set_ne (w := w1) (b := t) (i := 19) nv (.int .i64 (wrap64 (s.all + 1)))).trans B1.out)
  clear T1 B1 B0 T0
  go_upto_region 9 with (fail)
  generalize w1.setCell ⟨t, 19, none⟩ (.int .i64 (wrap64 (s.all + 1))) = w2 at *
  clear ca fa
  have v0 : w2.cell? ⟨w.heap.size, 0, none⟩ = some (.int .i64 3) := (cell_of_blk B2.out).trans rfl
  have ck := T2.out.rep.ck (i := 3) (by decide)
  have fk := T2.out.rep.free 17
  simp only [Nat.reduceAdd] at ck
  have T3 := Aside0.mk (T2.out.ks (i := 3) (by decide) (wrap64 (s.ks 3 + 1))).drew
  have B3 := Aside0.mk ((blk_set_ne (w := w2) (b := t) (i := 17) nv (.int .i64 (wrap64 (s.ks 3 + 1)))).trans B2.out)
  clear T2 B2
  go_wp2_with fail
  go_region
  have B4 : Aside0 ((w2.setCell ⟨t, 17, none⟩ (.int .i64 (wrap64 (s.ks 3 + 1)))).drew.heap[w.heap.size]? = some (.cells #[.int .i64 3, .int .i64 n, .string str, .bool false, .int .i64 c] 25)) := B3
  clear B3 v0 ck fk
  have T4 : Aside0 (TW w t s (w2.setCell ⟨t, 17, none⟩ (.int .i64 (wrap64 (s.ks 3 + 1)))).drew (s.plus 3 1)) := T3
  clear T3
  generalize (w2.setCell ⟨t, 17, none⟩ (.int .i64 (wrap64 (s.ks 3 + 1)))).drew = w3 at *
  have v0 : w3.cell? ⟨w.heap.size, 0, none⟩ = some (.int .i64 3) := (cell_of_blk B4.out).trans rfl
  have v1 : w3.cell? ⟨w.heap.size, 1, none⟩ = some (.int .i64 n) := (cell_of_blk B4.out).trans rfl
  have v2 : w3.cell? ⟨w.heap.size, 2, none⟩ = some (.string str) := (cell_of_blk B4.out).trans rfl
  have v3 : w3.cell? ⟨w.heap.size, 3, none⟩ = some (.bool false) := (cell_of_blk B4.out).trans rfl
  have v4 : w3.cell? ⟨w.heap.size, 4, none⟩ = some (.int .i64 c) := (cell_of_blk B4.out).trans rfl
  have ct := T4.out.rep.ct (i := 0) (by decide)
  have ft := T4.out.rep.free 4
  simp only [Nat.reduceAdd] at ct
  have T5 := Aside0.mk (T4.out.tr (i := 0) (by decide) (wrap64 (s.tr 0 + 1))).drew
  clear T4 B4
  go_wp2_with fail
  go_still_tail 12, (by kernel_rfl)
  still_call (place_same _ _)
  repeat still_step
  refine wpStill_nil ?_
  go_wp2
  go_ret
  exact ⟨rfl, T5.out⟩
end Go.Proofs.Ytlglopainaploaa.Tal
/-! A text is put in. -/
namespace Go.Proofs.Ytlglopainaploaa.Tal
open Go.RowKit Go.Proofs.YtlglopainaploaaW.PrintWords Go.Proofs.YtlglopainaploaaW.PrintLast Go.Proofs.YtlglopainaploaaW.PrintMore
open Go.Proofs.Ytlglopainaploaa.PL
set_option linter.unusedVariables false
set_option linter.unusedSimpArgs false

def keyS (f : ByteArray) : Lit := .string f.data.toList
theorem TW.map {w w' w2 : World} {t n : Nat} {s s' : TS} {D : DataW Unit} (h : TW w t s w' s') (ho : w2.ownsMap Try.prog 9 (plainElem Try.prog 3) s'.m n D) (hg : w'.grownBy w2 (some s'.m)) : TW w t s w2 { s' with n := n, D := D } := by
  have keep : ∀ b, domT t s' b → b ≠ s'.m → w2.heap[b]? = w'.heap[b]? := fun b hb hd => hg.block b (h.rep.lt hb) (fun e => hd (Option.some.inj e))
  refine ⟨⟨(keep t (.inl rfl) h.rep.ne_m).trans h.rep.tb, (keep s'.g (.inr (.inl rfl)) h.rep.ne_gm).trans h.rep.bb, ho, fun b k hb => (keep b (.inr (.inr (.inr (dom_of hb)))) (fun e => h.rep.nm (by rw [← e]; exact dom_of hb))).trans (h.rep.rep b k hb)⟩,
    ⟨hg.os.trans h.chg.os, hg.tape.trans h.chg.tape, hg.output.trans h.chg.output, Nat.le_trans h.chg.size hg.size, fun i hi hd => ?_⟩, h.dom⟩
  refine (hg.block i (Nat.lt_of_lt_of_le hi h.chg.size) (fun e => ?_)).trans (h.chg.block i hi hd)
  have e' := Option.some.inj e
  exact (h.dom i (.inr (.inr (.inl e')))).elim hd (fun q => absurd hi (Nat.not_lt.2 q))
theorem zero3 (w : World) : (zeroValue 3).run Try.prog w = .ok (.int .i64 0) w := by kernel_rfl
theorem lit_one {c d : Int} {D : DataW Unit} {x : Lit} {z : DataW Unit} (h : D.atKey x z = .lit (.int .i64 c)) (h2 : D.atKey x z = .lit (.int .i64 d)) : c = d := by
  rw [h] at h2
  injection h2 with h2
  injection h2
set_option maxHeartbeats 3200000 in
set_option maxRecDepth 100000 in
theorem add_text {w : World} {t : Nat} {s : TS} {n : Int} {str : ByteArray} {b : Bool} {c : Int} {m : Int} (h : TRep w t s) (hv : value_Check.f 2 n str b c = some 0) (ha : s.all < 4096) (hk : keyOf Try.prog 9 (.string (value_Fold.s str)) = some (keyS (value_Fold.s str))) (hn : s.n < maxLen) (hm : s.D.atKey (keyS (value_Fold.s str)) (.lit (.int .i64 0)) = .lit (.int .i64 m)) :
    Calls Try.prog 14 #[.pointer (some ⟨t, 0, none⟩), .agg #[.int .i64 2, .int .i64 n, .string str, .bool b, .int .i64 c]] w fun e w' => e = .returned (.int .i64 0) ∧
      TW w t s w' { s.plus 2 1 with n := s.n + 1, D := s.D.put (keyS (value_Fold.s str)) (.lit (.int .i64 (wrap64 (m + 1)))) } := by
  have hu25 := Try.underlying25
  have T0 := Aside0.mk ((TW.refl h).alloc (.cells #[.int .i64 2, .int .i64 n, .string str, .bool b, .int .i64 c] 25))
  have B0 := Aside0.mk (blk_alloc_new w (.cells #[.int .i64 2, .int .i64 n, .string str, .bool b, .int .i64 c] 25))
  have HV := Aside0.mk hv
  have d1 : decide (4096 ≤ s.all) = false := decide_eq_false (by omega)
  have HK := Aside0.mk hk
  have HN := Aside0.mk hn
  have HM := Aside0.mk hm
  clear hk hn hm
  clear h hv ha
  go_enter Try.func14, Try.ntmps14
  go_upto_region 6 with (first | (go_at_call 50; with_reducible refine (made_calls T0.out.rep).mono ?_; rintro e w' ⟨rfl, rfl⟩) | (go_at_call 33; with_reducible refine (value_Check.calls _ _ _ _ _ _ _ HV.out).mono ?_; rintro e w1 ⟨rfl, hb⟩; have T1 := Aside0.mk (T0.out.below hb); have B1 := Aside0.mk ((hb.block w.heap.size (by simp)).trans B0.out); clear hb))
  have nv : ¬ w.heap.size = t := fun e => by
    have a := B1.out
    rw [e, T1.out.rep.tb] at a
    have := Obj.cells.inj (Option.some.inj a)
    exact absurd this.2.1 (by decide)
  have nv' : ¬ t = w.heap.size := fun e => nv e.symm
  have ca := T1.out.rep.ca
  have fa := T1.out.rep.free 19
  have T2 := Aside0.mk (T1.out.all (wrap64 (s.all + 1)))
  have B2 := Aside0.mk ((blk_set_ne (w := w1) (b := t) (i := 19) nv (.int .i64 (wrap64 (s.all + 1)))).trans B1.out)
  clear T1 B1 B0 T0
  go_upto_region 9 with (fail)
  generalize w1.setCell ⟨t, 19, none⟩ (.int .i64 (wrap64 (s.all + 1))) = w2 at *
  clear ca fa
  have v0 : w2.cell? ⟨w.heap.size, 0, none⟩ = some (.int .i64 2) := (cell_of_blk B2.out).trans rfl
  have ck := T2.out.rep.ck (i := 2) (by decide)
  have fk := T2.out.rep.free 16
  simp only [Nat.reduceAdd] at ck
  have T3 := Aside0.mk (T2.out.ks (i := 2) (by decide) (wrap64 (s.ks 2 + 1))).drew
  have B3 := Aside0.mk ((blk_set_ne (w := w2) (b := t) (i := 16) nv (.int .i64 (wrap64 (s.ks 2 + 1)))).trans B2.out)
  clear T2 B2
  go_wp2_with fail
  go_region
  have B4 : Aside0 ((w2.setCell ⟨t, 16, none⟩ (.int .i64 (wrap64 (s.ks 2 + 1)))).drew.heap[w.heap.size]? = some (.cells #[.int .i64 2, .int .i64 n, .string str, .bool b, .int .i64 c] 25)) := B3
  clear B3 v0 ck fk
  have T4 : Aside0 (TW w t s (w2.setCell ⟨t, 16, none⟩ (.int .i64 (wrap64 (s.ks 2 + 1)))).drew (s.plus 2 1)) := T3
  clear T3
  generalize (w2.setCell ⟨t, 16, none⟩ (.int .i64 (wrap64 (s.ks 2 + 1)))).drew = w3 at *
  have v0 : w3.cell? ⟨w.heap.size, 0, none⟩ = some (.int .i64 2) := (cell_of_blk B4.out).trans rfl
  have v1 : w3.cell? ⟨w.heap.size, 1, none⟩ = some (.int .i64 n) := (cell_of_blk B4.out).trans rfl
  have v2 : w3.cell? ⟨w.heap.size, 2, none⟩ = some (.string str) := (cell_of_blk B4.out).trans rfl
  have v3 : w3.cell? ⟨w.heap.size, 3, none⟩ = some (.bool b) := (cell_of_blk B4.out).trans rfl
  have v4 : w3.cell? ⟨w.heap.size, 4, none⟩ = some (.int .i64 c) := (cell_of_blk B4.out).trans rfl
  have c3 := T4.out.rep.c3
  clear B4
  go_wp2_with fail
  go_region_with (first | (go_at_call 34; refine (value_Fold.calls str (value_Fold.s str) w3.drew rfl).mono ?_; rintro e w5 ⟨rfl, hb⟩; have T7 := Aside0.mk ((TW.drew T4.out).below hb); have c3 := T7.out.rep.c3; clear hb; obtain ⟨c', hrun, hat, _⟩ := T7.out.rep.mp.lookup_int (Maps.string_keyed Try.underlying9) Try.underlying30 Try.underlying3 (zero3 _) HK.out; obtain rfl := lit_one hat HM.out; clear hat; obtain ⟨w6, hup, own, gr⟩ := T7.out.rep.mp.update (Maps.string_keyed Try.underlying9) Try.underlying30 HN.out HK.out (plainElem_int Try.underlying3 (a := wrap64 (c' + 1)) (wrap64_wf _)); have T8 := Aside0.mk (T7.out.map own gr); clear own gr; have hup2 := hup; rw [← i64_w] at hup2))
  all_goals
    go_wp2
    go_ret
    exact ⟨rfl, T8.out⟩
end Go.Proofs.Ytlglopainaploaa.Tal
/-! How often a value is there, kind by kind. -/
namespace Go.Proofs.Ytlglopainaploaa.Tal
open Go.RowKit Go.Proofs.YtlglopainaploaaW.PrintWords Go.Proofs.YtlglopainaploaaW.PrintLast Go.Proofs.YtlglopainaploaaW.PrintMore
open Go.Proofs.Ytlglopainaploaa.PL
set_option linter.unusedVariables false
set_option linter.unusedSimpArgs false

theorem cell_drewP {w : World} {a : Addr} {v : Value} {n : Nat} (h : w.cell? a = some v) : (w.drewN n).cell? a = some v := h
theorem below_drawn2 {w w1 w2 : World} (h : Below w.heap.size w w1) (k : Drawn0 w1 w2) : Below w.heap.size w w2 := below_step2 h (below_of_drawn k)
theorem quiet_place {w : World} {n : Nat} (b : Bool) : Calls Try.prog 52 #[.bool b] (w.drewN n) fun e w'' => e = .returned (.int .i64 (if b = true then 1 else 0)) ∧ ∃ m, w'' = w.drewN m := Calls.quiet_of_same (place_same b _)
set_option maxHeartbeats 3200000 in
set_option maxRecDepth 100000 in
theorem often_fault {w : World} {t : Nat} {s : TS} {n : Int} {str : ByteArray} {b : Bool} {c : Nat} (h : TRep w t s) (hv : value_Check.f 4 n str b ((c : Int)) = some 0) (hc : c < 8) :
    Calls Try.prog 20 #[.pointer (some ⟨t, 0, none⟩), .agg #[.int .i64 4, .int .i64 n, .string str, .bool b, .int .i64 (c : Int)]] w fun e w' => e = .returned (.int .i64 (s.fs c)) ∧ Below w.heap.size w w' := by
  have hu25 := Try.underlying25
  have T0 := Aside0.mk ((TW.refl h).alloc (.cells #[.int .i64 4, .int .i64 n, .string str, .bool b, .int .i64 (c : Int)] 25))
  have B0 := Aside0.mk (blk_alloc_new w (.cells #[.int .i64 4, .int .i64 n, .string str, .bool b, .int .i64 (c : Int)] 25))
  have S0 := Aside0.mk (below_alloc (Below.refl w.heap.size w) (.cells #[.int .i64 4, .int .i64 n, .string str, .bool b, .int .i64 (c : Int)] 25))
  have HV := Aside0.mk hv
  have HC := Aside0.mk hc
  clear hc
  clear h hv
  go_enter Try.func20, Try.ntmps20
  go_upto_region 3 with (first | (go_at_call 50; with_reducible refine (made_calls T0.out.rep).mono ?_; rintro e w' ⟨rfl, rfl⟩) | (go_at_call 33; with_reducible refine (value_Check.calls _ _ _ _ _ _ _ HV.out).mono ?_; rintro e w1 ⟨rfl, hb⟩; have T1 := Aside0.mk (T0.out.below hb).rep; have B1 := Aside0.mk ((hb.block w.heap.size (by simp)).trans B0.out); have S1 := Aside0.mk (below_step2 S0.out hb); clear hb))
  have v0 : w1.cell? ⟨w.heap.size, 0, none⟩ = some (.int .i64 4) := (cell_of_blk B1.out).trans rfl
  have v1 : w1.cell? ⟨w.heap.size, 1, none⟩ = some (.int .i64 n) := (cell_of_blk B1.out).trans rfl
  have v2 : w1.cell? ⟨w.heap.size, 2, none⟩ = some (.string str) := (cell_of_blk B1.out).trans rfl
  have v3 : w1.cell? ⟨w.heap.size, 3, none⟩ = some (.bool b) := (cell_of_blk B1.out).trans rfl
  have v4 : w1.cell? ⟨w.heap.size, 4, none⟩ = some (.int .i64 (c : Int)) := (cell_of_blk B1.out).trans rfl
  have c0 := T1.out.c0
  have c3 := T1.out.c3
  clear T0 B0 S0
  have cf := T1.out.cf HC.out
  have p1 : (0 ≤ (c : Int)) = True := eq_true (by omega)
  have p2 : ((c : Int) < 8) = True := eq_true (by have := HC.out; omega)
  go_wp2_with fail
  go_quiet (fail)
  go_wp2
  go_ret
  exact ⟨rfl, pw_below_drewN S1.out _⟩
set_option maxHeartbeats 3200000 in
set_option maxRecDepth 100000 in
theorem often_blank {w : World} {t : Nat} {s : TS} {n : Int} {str : ByteArray} {b : Bool} {c : Int} (h : TRep w t s) (hv : value_Check.f 0 n str b c = some 0) :
    Calls Try.prog 20 #[.pointer (some ⟨t, 0, none⟩), .agg #[.int .i64 0, .int .i64 n, .string str, .bool b, .int .i64 c]] w fun e w' => e = .returned (.int .i64 (s.ks 0)) ∧ Below w.heap.size w w' := by
  have hu25 := Try.underlying25
  have T0 := Aside0.mk ((TW.refl h).alloc (.cells #[.int .i64 0, .int .i64 n, .string str, .bool b, .int .i64 c] 25))
  have B0 := Aside0.mk (blk_alloc_new w (.cells #[.int .i64 0, .int .i64 n, .string str, .bool b, .int .i64 c] 25))
  have S0 := Aside0.mk (below_alloc (Below.refl w.heap.size w) (.cells #[.int .i64 0, .int .i64 n, .string str, .bool b, .int .i64 c] 25))
  have HV := Aside0.mk hv
  clear h hv
  go_enter Try.func20, Try.ntmps20
  go_upto_region 3 with (first | (go_at_call 50; with_reducible refine (made_calls T0.out.rep).mono ?_; rintro e w' ⟨rfl, rfl⟩) | (go_at_call 33; with_reducible refine (value_Check.calls _ _ _ _ _ _ _ HV.out).mono ?_; rintro e w1 ⟨rfl, hb⟩; have T1 := Aside0.mk (T0.out.below hb).rep; have B1 := Aside0.mk ((hb.block w.heap.size (by simp)).trans B0.out); have S1 := Aside0.mk (below_step2 S0.out hb); clear hb))
  have v0 : w1.cell? ⟨w.heap.size, 0, none⟩ = some (.int .i64 0) := (cell_of_blk B1.out).trans rfl
  have v1 : w1.cell? ⟨w.heap.size, 1, none⟩ = some (.int .i64 n) := (cell_of_blk B1.out).trans rfl
  have v2 : w1.cell? ⟨w.heap.size, 2, none⟩ = some (.string str) := (cell_of_blk B1.out).trans rfl
  have v3 : w1.cell? ⟨w.heap.size, 3, none⟩ = some (.bool b) := (cell_of_blk B1.out).trans rfl
  have v4 : w1.cell? ⟨w.heap.size, 4, none⟩ = some (.int .i64 c) := (cell_of_blk B1.out).trans rfl
  have c0 := T1.out.c0
  have c3 := T1.out.c3
  clear T0 B0 S0
  have ck := T1.out.ck (i := 0) (by decide)
  simp only [Nat.add_zero] at ck
  go_wp2
  go_ret
  exact ⟨rfl, S1.out⟩
set_option maxHeartbeats 3200000 in
set_option maxRecDepth 100000 in
theorem often_true {w : World} {t : Nat} {s : TS} {n : Int} {str : ByteArray} {c : Int} (h : TRep w t s) (hv : value_Check.f 3 n str true c = some 0) :
    Calls Try.prog 20 #[.pointer (some ⟨t, 0, none⟩), .agg #[.int .i64 3, .int .i64 n, .string str, .bool true, .int .i64 c]] w fun e w' => e = .returned (.int .i64 (s.tr 1)) ∧ Below w.heap.size w w' := by
  have hu25 := Try.underlying25
  have T0 := Aside0.mk ((TW.refl h).alloc (.cells #[.int .i64 3, .int .i64 n, .string str, .bool true, .int .i64 c] 25))
  have B0 := Aside0.mk (blk_alloc_new w (.cells #[.int .i64 3, .int .i64 n, .string str, .bool true, .int .i64 c] 25))
  have S0 := Aside0.mk (below_alloc (Below.refl w.heap.size w) (.cells #[.int .i64 3, .int .i64 n, .string str, .bool true, .int .i64 c] 25))
  have HV := Aside0.mk hv
  clear h hv
  go_enter Try.func20, Try.ntmps20
  go_upto_region 3 with (first | (go_at_call 50; with_reducible refine (made_calls T0.out.rep).mono ?_; rintro e w' ⟨rfl, rfl⟩) | (go_at_call 33; with_reducible refine (value_Check.calls _ _ _ _ _ _ _ HV.out).mono ?_; rintro e w1 ⟨rfl, hb⟩; have T1 := Aside0.mk (T0.out.below hb).rep; have B1 := Aside0.mk ((hb.block w.heap.size (by simp)).trans B0.out); have S1 := Aside0.mk (below_step2 S0.out hb); clear hb))
  have v0 : w1.cell? ⟨w.heap.size, 0, none⟩ = some (.int .i64 3) := (cell_of_blk B1.out).trans rfl
  have v1 : w1.cell? ⟨w.heap.size, 1, none⟩ = some (.int .i64 n) := (cell_of_blk B1.out).trans rfl
  have v2 : w1.cell? ⟨w.heap.size, 2, none⟩ = some (.string str) := (cell_of_blk B1.out).trans rfl
  have v3 : w1.cell? ⟨w.heap.size, 3, none⟩ = some (.bool true) := (cell_of_blk B1.out).trans rfl
  have v4 : w1.cell? ⟨w.heap.size, 4, none⟩ = some (.int .i64 c) := (cell_of_blk B1.out).trans rfl
  have c0 := T1.out.c0
  have c3 := T1.out.c3
  clear T0 B0 S0
  have ct := T1.out.ct (i := 1) (by decide)
  simp only [Nat.reduceAdd] at ct
  go_wp2_with fail
  go_quiet (first | (go_at_call 52; with_reducible refine quiet_place _))
  go_wp2
  go_ret
  exact ⟨rfl, pw_below_drewN S1.out _⟩
set_option maxHeartbeats 3200000 in
set_option maxRecDepth 100000 in
theorem often_false {w : World} {t : Nat} {s : TS} {n : Int} {str : ByteArray} {c : Int} (h : TRep w t s) (hv : value_Check.f 3 n str false c = some 0) :
    Calls Try.prog 20 #[.pointer (some ⟨t, 0, none⟩), .agg #[.int .i64 3, .int .i64 n, .string str, .bool false, .int .i64 c]] w fun e w' => e = .returned (.int .i64 (s.tr 0)) ∧ Below w.heap.size w w' := by
  have hu25 := Try.underlying25
  have T0 := Aside0.mk ((TW.refl h).alloc (.cells #[.int .i64 3, .int .i64 n, .string str, .bool false, .int .i64 c] 25))
  have B0 := Aside0.mk (blk_alloc_new w (.cells #[.int .i64 3, .int .i64 n, .string str, .bool false, .int .i64 c] 25))
  have S0 := Aside0.mk (below_alloc (Below.refl w.heap.size w) (.cells #[.int .i64 3, .int .i64 n, .string str, .bool false, .int .i64 c] 25))
  have HV := Aside0.mk hv
  clear h hv
  go_enter Try.func20, Try.ntmps20
  go_upto_region 3 with (first | (go_at_call 50; with_reducible refine (made_calls T0.out.rep).mono ?_; rintro e w' ⟨rfl, rfl⟩) | (go_at_call 33; with_reducible refine (value_Check.calls _ _ _ _ _ _ _ HV.out).mono ?_; rintro e w1 ⟨rfl, hb⟩; have T1 := Aside0.mk (T0.out.below hb).rep; have B1 := Aside0.mk ((hb.block w.heap.size (by simp)).trans B0.out); have S1 := Aside0.mk (below_step2 S0.out hb); clear hb))
  have v0 : w1.cell? ⟨w.heap.size, 0, none⟩ = some (.int .i64 3) := (cell_of_blk B1.out).trans rfl
  have v1 : w1.cell? ⟨w.heap.size, 1, none⟩ = some (.int .i64 n) := (cell_of_blk B1.out).trans rfl
  have v2 : w1.cell? ⟨w.heap.size, 2, none⟩ = some (.string str) := (cell_of_blk B1.out).trans rfl
  have v3 : w1.cell? ⟨w.heap.size, 3, none⟩ = some (.bool false) := (cell_of_blk B1.out).trans rfl
  have v4 : w1.cell? ⟨w.heap.size, 4, none⟩ = some (.int .i64 c) := (cell_of_blk B1.out).trans rfl
  have c0 := T1.out.c0
  have c3 := T1.out.c3
  clear T0 B0 S0
  have ct := T1.out.ct (i := 0) (by decide)
  simp only [Nat.reduceAdd] at ct
  go_wp2_with fail
  go_quiet (first | (go_at_call 52; with_reducible refine quiet_place _))
  go_wp2
  go_ret
  exact ⟨rfl, pw_below_drewN S1.out _⟩
set_option maxHeartbeats 3200000 in
set_option maxRecDepth 100000 in
theorem often_num {w : World} {t : Nat} {s : TS} {n : Int} {str : ByteArray} {b : Bool} {c r : Int} {f : Nat} (h : TRep w t s) (hv : value_Check.f 1 n str b c = some 0) (ho : oftenH f s.H s.p n = some r) :
    Calls Try.prog 20 #[.pointer (some ⟨t, 0, none⟩), .agg #[.int .i64 1, .int .i64 n, .string str, .bool b, .int .i64 c]] w fun e w' => e = .returned (.int .i64 r) ∧ Below w.heap.size w w' := by
  have hu25 := Try.underlying25
  have T0 := Aside0.mk ((TW.refl h).alloc (.cells #[.int .i64 1, .int .i64 n, .string str, .bool b, .int .i64 c] 25))
  have B0 := Aside0.mk (blk_alloc_new w (.cells #[.int .i64 1, .int .i64 n, .string str, .bool b, .int .i64 c] 25))
  have S0 := Aside0.mk (below_alloc (Below.refl w.heap.size w) (.cells #[.int .i64 1, .int .i64 n, .string str, .bool b, .int .i64 c] 25))
  have HV := Aside0.mk hv
  have HO := Aside0.mk ho
  clear ho
  clear h hv
  go_enter Try.func20, Try.ntmps20
  go_upto_region 3 with (first | (go_at_call 50; with_reducible refine (made_calls T0.out.rep).mono ?_; rintro e w' ⟨rfl, rfl⟩) | (go_at_call 33; with_reducible refine (value_Check.calls _ _ _ _ _ _ _ HV.out).mono ?_; rintro e w1 ⟨rfl, hb⟩; have T1 := Aside0.mk (T0.out.below hb).rep; have B1 := Aside0.mk ((hb.block w.heap.size (by simp)).trans B0.out); have S1 := Aside0.mk (below_step2 S0.out hb); clear hb))
  have v0 : w1.cell? ⟨w.heap.size, 0, none⟩ = some (.int .i64 1) := (cell_of_blk B1.out).trans rfl
  have v1 : w1.cell? ⟨w.heap.size, 1, none⟩ = some (.int .i64 n) := (cell_of_blk B1.out).trans rfl
  have v2 : w1.cell? ⟨w.heap.size, 2, none⟩ = some (.string str) := (cell_of_blk B1.out).trans rfl
  have v3 : w1.cell? ⟨w.heap.size, 3, none⟩ = some (.bool b) := (cell_of_blk B1.out).trans rfl
  have v4 : w1.cell? ⟨w.heap.size, 4, none⟩ = some (.int .i64 c) := (cell_of_blk B1.out).trans rfl
  have c0 := T1.out.c0
  have c3 := T1.out.c3
  clear T0 B0 S0
  go_wp2_with fail
  go_quiet (first | (go_at_call 56; refine quiet_drawn (often_calls HO.out (T1.out.drewN _).rep (cell_drewP T1.out.cg))))
  go_wp2
  go_ret
  exact ⟨rfl, pw_below_drewN S1.out _⟩
set_option maxHeartbeats 3200000 in
set_option maxRecDepth 100000 in
theorem often_text {w : World} {t : Nat} {s : TS} {n : Int} {str : ByteArray} {b : Bool} {c m : Int} (h : TRep w t s) (hv : value_Check.f 2 n str b c = some 0) (hk : keyOf Try.prog 9 (.string (value_Fold.s str)) = some (keyS (value_Fold.s str))) (hm : s.D.atKey (keyS (value_Fold.s str)) (.lit (.int .i64 0)) = .lit (.int .i64 m)) :
    Calls Try.prog 20 #[.pointer (some ⟨t, 0, none⟩), .agg #[.int .i64 2, .int .i64 n, .string str, .bool b, .int .i64 c]] w fun e w' => e = .returned (.int .i64 m) ∧ Below w.heap.size w w' := by
  have hu25 := Try.underlying25
  have T0 := Aside0.mk ((TW.refl h).alloc (.cells #[.int .i64 2, .int .i64 n, .string str, .bool b, .int .i64 c] 25))
  have B0 := Aside0.mk (blk_alloc_new w (.cells #[.int .i64 2, .int .i64 n, .string str, .bool b, .int .i64 c] 25))
  have S0 := Aside0.mk (below_alloc (Below.refl w.heap.size w) (.cells #[.int .i64 2, .int .i64 n, .string str, .bool b, .int .i64 c] 25))
  have HV := Aside0.mk hv
  have HK := Aside0.mk hk
  have HM := Aside0.mk hm
  clear hk hm
  clear h hv
  go_enter Try.func20, Try.ntmps20
  go_upto_region 3 with (first | (go_at_call 50; with_reducible refine (made_calls T0.out.rep).mono ?_; rintro e w' ⟨rfl, rfl⟩) | (go_at_call 33; with_reducible refine (value_Check.calls _ _ _ _ _ _ _ HV.out).mono ?_; rintro e w1 ⟨rfl, hb⟩; have T1 := Aside0.mk (T0.out.below hb).rep; have B1 := Aside0.mk ((hb.block w.heap.size (by simp)).trans B0.out); have S1 := Aside0.mk (below_step2 S0.out hb); clear hb))
  have v0 : w1.cell? ⟨w.heap.size, 0, none⟩ = some (.int .i64 2) := (cell_of_blk B1.out).trans rfl
  have v1 : w1.cell? ⟨w.heap.size, 1, none⟩ = some (.int .i64 n) := (cell_of_blk B1.out).trans rfl
  have v2 : w1.cell? ⟨w.heap.size, 2, none⟩ = some (.string str) := (cell_of_blk B1.out).trans rfl
  have v3 : w1.cell? ⟨w.heap.size, 3, none⟩ = some (.bool b) := (cell_of_blk B1.out).trans rfl
  have v4 : w1.cell? ⟨w.heap.size, 4, none⟩ = some (.int .i64 c) := (cell_of_blk B1.out).trans rfl
  have c0 := T1.out.c0
  have c3 := T1.out.c3
  clear T0 B0 S0
  go_wp2_with fail
  go_region_with (first | (go_at_call 34; refine (value_Fold.calls str (value_Fold.s str) w1.drew rfl).mono ?_; rintro e w5 ⟨rfl, hb⟩; have T7 := Aside0.mk ((TRep.drew T1.out).below hb); have c3 := T7.out.c3; have S7 := Aside0.mk (below_step2 (Below.drew S1.out) hb); clear hb; obtain ⟨c', hrun, hat, _⟩ := T7.out.mp.lookup_int (Maps.string_keyed Try.underlying9) Try.underlying30 Try.underlying3 (zero3 _) HK.out; obtain rfl := lit_one hat HM.out; clear hat))
  all_goals
    go_wp2
    go_ret
    exact ⟨rfl, S7.out⟩
end Go.Proofs.Ytlglopainaploaa.Tal
/-! A value is taken out, kind by kind. -/
namespace Go.Proofs.Ytlglopainaploaa.Tal
open Go.RowKit Go.Proofs.YtlglopainaploaaW.PrintWords Go.Proofs.YtlglopainaploaaW.PrintLast Go.Proofs.YtlglopainaploaaW.PrintMore
open Go.Proofs.Ytlglopainaploaa.PL
set_option linter.unusedVariables false
set_option linter.unusedSimpArgs false

/-- A tally that has taken out a value of a kind. -/
def TS.minus (s : TS) (k : Nat) : TS := { s with all := wrap64 (s.all - 1), ks := up s.ks k (wrap64 (s.ks k - 1)) }
set_option maxHeartbeats 3200000 in
set_option maxRecDepth 100000 in
theorem drop_fault {w : World} {t : Nat} {s : TS} {n : Int} {str : ByteArray} {b : Bool} {c : Nat} (h : TRep w t s) (hv : value_Check.f 4 n str b ((c : Int)) = some 0) {q : Int} (hq : q ≠ 0) (ho : ∀ w1, TRep w1 t s → Calls Try.prog 20 #[.pointer (some ⟨t, 0, none⟩), .agg #[.int .i64 4, .int .i64 n, .string str, .bool b, .int .i64 (c : Int)]] w1 fun e w' => e = .returned (.int .i64 q) ∧ Below w1.heap.size w1 w') (hc : c < 8) :
    Calls Try.prog 15 #[.pointer (some ⟨t, 0, none⟩), .agg #[.int .i64 4, .int .i64 n, .string str, .bool b, .int .i64 (c : Int)]] w fun e w' => e = .returned (.int .i64 0) ∧
      TW w t s w' { s.minus 4 with fs := up s.fs c (wrap64 (s.fs c - 1)) } := by
  have hu25 := Try.underlying25
  have T0 := Aside0.mk ((TW.refl h).alloc (.cells #[.int .i64 4, .int .i64 n, .string str, .bool b, .int .i64 (c : Int)] 25))
  have B0 := Aside0.mk (blk_alloc_new w (.cells #[.int .i64 4, .int .i64 n, .string str, .bool b, .int .i64 (c : Int)] 25))
  have HV := Aside0.mk hv
  have d1 : (q == 0) = false := beq_eq_false_iff_ne.mpr hq
  have HO := Aside0.mk ho
  have HC := Aside0.mk hc
  clear hc
  clear h hv ho hq
  go_enter Try.func15, Try.ntmps15
  go_upto_region 6 with (first | (go_at_call 50; with_reducible refine (made_calls T0.out.rep).mono ?_; rintro e w' ⟨rfl, rfl⟩) | (go_at_call 33; with_reducible refine (value_Check.calls _ _ _ _ _ _ _ HV.out).mono ?_; rintro e w1 ⟨rfl, hb⟩; have T1 := Aside0.mk (T0.out.below hb); have B1 := Aside0.mk ((hb.block w.heap.size (by simp)).trans B0.out); clear hb))
  have v0 : w1.cell? ⟨w.heap.size, 0, none⟩ = some (.int .i64 4) := (cell_of_blk B1.out).trans rfl
  have v1 : w1.cell? ⟨w.heap.size, 1, none⟩ = some (.int .i64 n) := (cell_of_blk B1.out).trans rfl
  have v2 : w1.cell? ⟨w.heap.size, 2, none⟩ = some (.string str) := (cell_of_blk B1.out).trans rfl
  have v3 : w1.cell? ⟨w.heap.size, 3, none⟩ = some (.bool b) := (cell_of_blk B1.out).trans rfl
  have v4 : w1.cell? ⟨w.heap.size, 4, none⟩ = some (.int .i64 (c : Int)) := (cell_of_blk B1.out).trans rfl
  go_upto_region 8 with (first | (go_at_call 20; with_reducible refine (HO.out _ T1.out.rep).mono ?_; rintro e w1 ⟨rfl, hb⟩; have T1' := Aside0.mk (T1.out.below hb); have B1' := Aside0.mk ((hb.block w.heap.size (Array.getElem?_eq_some_iff.1 B1.out).1).trans B1.out); clear T1 B1 hb; have T1 := T1'; have B1 := B1'; clear T1' B1'))
  clear v0 v1 v2 v3 v4
  have nv : ¬ w.heap.size = t := fun e => by
    have a := B1.out
    rw [e, T1.out.rep.tb] at a
    have := Obj.cells.inj (Option.some.inj a)
    exact absurd this.2.1 (by decide)
  have nv' : ¬ t = w.heap.size := fun e => nv e.symm
  have ca := T1.out.rep.ca
  have fa := T1.out.rep.free 19
  have T2 := Aside0.mk (T1.out.all (wrap64 (s.all - 1)))
  have B2 := Aside0.mk ((blk_set_ne (w := w1) (b := t) (i := 19) nv (.int .i64 (wrap64 (s.all - 1)))).trans B1.out)
  clear T1 B1 B0 T0
  go_upto_region 9 with (fail)
  generalize w1.setCell ⟨t, 19, none⟩ (.int .i64 (wrap64 (s.all - 1))) = w2 at *
  clear ca fa
  have v0 : w2.cell? ⟨w.heap.size, 0, none⟩ = some (.int .i64 4) := (cell_of_blk B2.out).trans rfl
  have ck := T2.out.rep.ck (i := 4) (by decide)
  have fk := T2.out.rep.free 18
  simp only [Nat.reduceAdd] at ck
  have T3 := Aside0.mk (T2.out.ks (i := 4) (by decide) (wrap64 (s.ks 4 - 1))).drew
  have B3 := Aside0.mk ((blk_set_ne (w := w2) (b := t) (i := 18) nv (.int .i64 (wrap64 (s.ks 4 - 1)))).trans B2.out)
  clear T2 B2
  go_wp2_with fail
  go_region
  have B4 : Aside0 ((w2.setCell ⟨t, 18, none⟩ (.int .i64 (wrap64 (s.ks 4 - 1)))).drew.heap[w.heap.size]? = some (.cells #[.int .i64 4, .int .i64 n, .string str, .bool b, .int .i64 (c : Int)] 25)) := B3
  clear B3 v0 ck fk
  have T4 : Aside0 (TW w t s (w2.setCell ⟨t, 18, none⟩ (.int .i64 (wrap64 (s.ks 4 - 1)))).drew (s.minus 4)) := T3
  clear T3
  generalize (w2.setCell ⟨t, 18, none⟩ (.int .i64 (wrap64 (s.ks 4 - 1)))).drew = w3 at *
  have v0 : w3.cell? ⟨w.heap.size, 0, none⟩ = some (.int .i64 4) := (cell_of_blk B4.out).trans rfl
  have v1 : w3.cell? ⟨w.heap.size, 1, none⟩ = some (.int .i64 n) := (cell_of_blk B4.out).trans rfl
  have v2 : w3.cell? ⟨w.heap.size, 2, none⟩ = some (.string str) := (cell_of_blk B4.out).trans rfl
  have v3 : w3.cell? ⟨w.heap.size, 3, none⟩ = some (.bool b) := (cell_of_blk B4.out).trans rfl
  have v4 : w3.cell? ⟨w.heap.size, 4, none⟩ = some (.int .i64 (c : Int)) := (cell_of_blk B4.out).trans rfl
  have cf : w3.cell? ⟨t, 6 + c, none⟩ = some (.int .i64 (s.fs c)) := T4.out.rep.cf HC.out
  have ff := T4.out.rep.free (6 + c)
  have p1 : (0 ≤ (c : Int)) = True := eq_true (by omega)
  have p2 : ((c : Int) < 8) = True := eq_true (by have := HC.out; omega)
  have T5 := Aside0.mk (T4.out.fs HC.out (wrap64 (s.fs c - 1))).drew
  clear T4 B4
  go_wp2_with fail
  go_region
  go_wp2
  go_ret
  exact ⟨rfl, T5.out⟩
set_option maxHeartbeats 3200000 in
set_option maxRecDepth 100000 in
theorem drop_blank {w : World} {t : Nat} {s : TS} {n : Int} {str : ByteArray} {b : Bool} {c : Int} (h : TRep w t s) (hv : value_Check.f 0 n str b c = some 0) {q : Int} (hq : q ≠ 0) (ho : ∀ w1, TRep w1 t s → Calls Try.prog 20 #[.pointer (some ⟨t, 0, none⟩), .agg #[.int .i64 0, .int .i64 n, .string str, .bool b, .int .i64 c]] w1 fun e w' => e = .returned (.int .i64 q) ∧ Below w1.heap.size w1 w') :
    Calls Try.prog 15 #[.pointer (some ⟨t, 0, none⟩), .agg #[.int .i64 0, .int .i64 n, .string str, .bool b, .int .i64 c]] w fun e w' => e = .returned (.int .i64 0) ∧
      TW w t s w' (s.minus 0) := by
  have hu25 := Try.underlying25
  have T0 := Aside0.mk ((TW.refl h).alloc (.cells #[.int .i64 0, .int .i64 n, .string str, .bool b, .int .i64 c] 25))
  have B0 := Aside0.mk (blk_alloc_new w (.cells #[.int .i64 0, .int .i64 n, .string str, .bool b, .int .i64 c] 25))
  have HV := Aside0.mk hv
  have d1 : (q == 0) = false := beq_eq_false_iff_ne.mpr hq
  have HO := Aside0.mk ho
  clear h hv ho hq
  go_enter Try.func15, Try.ntmps15
  go_upto_region 6 with (first | (go_at_call 50; with_reducible refine (made_calls T0.out.rep).mono ?_; rintro e w' ⟨rfl, rfl⟩) | (go_at_call 33; with_reducible refine (value_Check.calls _ _ _ _ _ _ _ HV.out).mono ?_; rintro e w1 ⟨rfl, hb⟩; have T1 := Aside0.mk (T0.out.below hb); have B1 := Aside0.mk ((hb.block w.heap.size (by simp)).trans B0.out); clear hb))
  have v0 : w1.cell? ⟨w.heap.size, 0, none⟩ = some (.int .i64 0) := (cell_of_blk B1.out).trans rfl
  have v1 : w1.cell? ⟨w.heap.size, 1, none⟩ = some (.int .i64 n) := (cell_of_blk B1.out).trans rfl
  have v2 : w1.cell? ⟨w.heap.size, 2, none⟩ = some (.string str) := (cell_of_blk B1.out).trans rfl
  have v3 : w1.cell? ⟨w.heap.size, 3, none⟩ = some (.bool b) := (cell_of_blk B1.out).trans rfl
  have v4 : w1.cell? ⟨w.heap.size, 4, none⟩ = some (.int .i64 c) := (cell_of_blk B1.out).trans rfl
  go_upto_region 8 with (first | (go_at_call 20; with_reducible refine (HO.out _ T1.out.rep).mono ?_; rintro e w1 ⟨rfl, hb⟩; have T1' := Aside0.mk (T1.out.below hb); have B1' := Aside0.mk ((hb.block w.heap.size (Array.getElem?_eq_some_iff.1 B1.out).1).trans B1.out); clear T1 B1 hb; have T1 := T1'; have B1 := B1'; clear T1' B1'))
  clear v0 v1 v2 v3 v4
  have nv : ¬ w.heap.size = t := fun e => by
    have a := B1.out
    rw [e, T1.out.rep.tb] at a
    have := Obj.cells.inj (Option.some.inj a)
    exact absurd this.2.1 (by decide)
  have nv' : ¬ t = w.heap.size := fun e => nv e.symm
  have ca := T1.out.rep.ca
  have fa := T1.out.rep.free 19
  have T2 := Aside0.mk (T1.out.all (wrap64 (s.all - 1)))
  have B2 := Aside0.mk ((blk_set_ne (w := w1) (b := t) (i := 19) nv (.int .i64 (wrap64 (s.all - 1)))).trans B1.out)
  clear T1 B1 B0 T0
  go_upto_region 9 with (fail)
  generalize w1.setCell ⟨t, 19, none⟩ (.int .i64 (wrap64 (s.all - 1))) = w2 at *
  clear ca fa
  have v0 : w2.cell? ⟨w.heap.size, 0, none⟩ = some (.int .i64 0) := (cell_of_blk B2.out).trans rfl
  have ck := T2.out.rep.ck (i := 0) (by decide)
  have fk := T2.out.rep.free 14
  simp only [Nat.reduceAdd] at ck
  have T3 := Aside0.mk (T2.out.ks (i := 0) (by decide) (wrap64 (s.ks 0 - 1))).drew
  have B3 := Aside0.mk ((blk_set_ne (w := w2) (b := t) (i := 14) nv (.int .i64 (wrap64 (s.ks 0 - 1)))).trans B2.out)
  clear T2 B2
  go_wp2_with fail
  go_region
  have B4 : Aside0 ((w2.setCell ⟨t, 14, none⟩ (.int .i64 (wrap64 (s.ks 0 - 1)))).drew.heap[w.heap.size]? = some (.cells #[.int .i64 0, .int .i64 n, .string str, .bool b, .int .i64 c] 25)) := B3
  clear B3 v0 ck fk
  have T4 : Aside0 (TW w t s (w2.setCell ⟨t, 14, none⟩ (.int .i64 (wrap64 (s.ks 0 - 1)))).drew (s.minus 0)) := T3
  clear T3
  generalize (w2.setCell ⟨t, 14, none⟩ (.int .i64 (wrap64 (s.ks 0 - 1)))).drew = w3 at *
  have v0 : w3.cell? ⟨w.heap.size, 0, none⟩ = some (.int .i64 0) := (cell_of_blk B4.out).trans rfl
  have v1 : w3.cell? ⟨w.heap.size, 1, none⟩ = some (.int .i64 n) := (cell_of_blk B4.out).trans rfl
  have v2 : w3.cell? ⟨w.heap.size, 2, none⟩ = some (.string str) := (cell_of_blk B4.out).trans rfl
  have v3 : w3.cell? ⟨w.heap.size, 3, none⟩ = some (.bool b) := (cell_of_blk B4.out).trans rfl
  have v4 : w3.cell? ⟨w.heap.size, 4, none⟩ = some (.int .i64 c) := (cell_of_blk B4.out).trans rfl
  clear B4
  go_wp2
  go_ret
  exact ⟨rfl, T4.out⟩
set_option maxHeartbeats 3200000 in
set_option maxRecDepth 100000 in
theorem drop_true {w : World} {t : Nat} {s : TS} {n : Int} {str : ByteArray} {c : Int} (h : TRep w t s) (hv : value_Check.f 3 n str true c = some 0) {q : Int} (hq : q ≠ 0) (ho : ∀ w1, TRep w1 t s → Calls Try.prog 20 #[.pointer (some ⟨t, 0, none⟩), .agg #[.int .i64 3, .int .i64 n, .string str, .bool true, .int .i64 c]] w1 fun e w' => e = .returned (.int .i64 q) ∧ Below w1.heap.size w1 w') :
    Calls Try.prog 15 #[.pointer (some ⟨t, 0, none⟩), .agg #[.int .i64 3, .int .i64 n, .string str, .bool true, .int .i64 c]] w fun e w' => e = .returned (.int .i64 0) ∧
      TW w t s w' { s.minus 3 with tr := up s.tr 1 (wrap64 (s.tr 1 - 1)) } := by
  have hu25 := Try.underlying25
  have T0 := Aside0.mk ((TW.refl h).alloc (.cells #[.int .i64 3, .int .i64 n, .string str, .bool true, .int .i64 c] 25))
  have B0 := Aside0.mk (blk_alloc_new w (.cells #[.int .i64 3, .int .i64 n, .string str, .bool true, .int .i64 c] 25))
  have HV := Aside0.mk hv
  have d1 : (q == 0) = false := beq_eq_false_iff_ne.mpr hq
  have HO := Aside0.mk ho
  clear h hv ho hq
  go_enter Try.func15, Try.ntmps15
  go_upto_region 6 with (first | (go_at_call 50; with_reducible refine (made_calls T0.out.rep).mono ?_; rintro e w' ⟨rfl, rfl⟩) | (go_at_call 33; with_reducible refine (value_Check.calls _ _ _ _ _ _ _ HV.out).mono ?_; rintro e w1 ⟨rfl, hb⟩; have T1 := Aside0.mk (T0.out.below hb); have B1 := Aside0.mk ((hb.block w.heap.size (by simp)).trans B0.out); clear hb))
  have v0 : w1.cell? ⟨w.heap.size, 0, none⟩ = some (.int .i64 3) := (cell_of_blk B1.out).trans rfl
  have v1 : w1.cell? ⟨w.heap.size, 1, none⟩ = some (.int .i64 n) := (cell_of_blk B1.out).trans rfl
  have v2 : w1.cell? ⟨w.heap.size, 2, none⟩ = some (.string str) := (cell_of_blk B1.out).trans rfl
  have v3 : w1.cell? ⟨w.heap.size, 3, none⟩ = some (.bool true) := (cell_of_blk B1.out).trans rfl
  have v4 : w1.cell? ⟨w.heap.size, 4, none⟩ = some (.int .i64 c) := (cell_of_blk B1.out).trans rfl
  go_upto_region 8 with (first | (go_at_call 20; with_reducible refine (HO.out _ T1.out.rep).mono ?_; rintro e w1 ⟨rfl, hb⟩; have T1' := Aside0.mk (T1.out.below hb); have B1' := Aside0.mk ((hb.block w.heap.size (Array.getElem?_eq_some_iff.1 B1.out).1).trans B1.out); clear T1 B1 hb; have T1 := T1'; have B1 := B1'; clear T1' B1'))
  clear v0 v1 v2 v3 v4
  have nv : ¬ w.heap.size = t := fun e => by
    have a := B1.out
    rw [e, T1.out.rep.tb] at a
    have := Obj.cells.inj (Option.some.inj a)
    exact absurd this.2.1 (by decide)
  have nv' : ¬ t = w.heap.size := fun e => nv e.symm
  have ca := T1.out.rep.ca
  have fa := T1.out.rep.free 19
  have T2 := Aside0.mk (T1.out.all (wrap64 (s.all - 1)))
  have B2 := Aside0.mk ((blk_set_ne (w := w1) (b := t) (i := 19) nv (.int .i64 (wrap64 (s.all - 1)))).trans B1.out)
  clear T1 B1 B0 T0
  go_upto_region 9 with (fail)
  generalize w1.setCell ⟨t, 19, none⟩ (.int .i64 (wrap64 (s.all - 1))) = w2 at *
  clear ca fa
  have v0 : w2.cell? ⟨w.heap.size, 0, none⟩ = some (.int .i64 3) := (cell_of_blk B2.out).trans rfl
  have ck := T2.out.rep.ck (i := 3) (by decide)
  have fk := T2.out.rep.free 17
  simp only [Nat.reduceAdd] at ck
  have T3 := Aside0.mk (T2.out.ks (i := 3) (by decide) (wrap64 (s.ks 3 - 1))).drew
  have B3 := Aside0.mk ((blk_set_ne (w := w2) (b := t) (i := 17) nv (.int .i64 (wrap64 (s.ks 3 - 1)))).trans B2.out)
  clear T2 B2
  go_wp2_with fail
  go_region
  have B4 : Aside0 ((w2.setCell ⟨t, 17, none⟩ (.int .i64 (wrap64 (s.ks 3 - 1)))).drew.heap[w.heap.size]? = some (.cells #[.int .i64 3, .int .i64 n, .string str, .bool true, .int .i64 c] 25)) := B3
  clear B3 v0 ck fk
  have T4 : Aside0 (TW w t s (w2.setCell ⟨t, 17, none⟩ (.int .i64 (wrap64 (s.ks 3 - 1)))).drew (s.minus 3)) := T3
  clear T3
  generalize (w2.setCell ⟨t, 17, none⟩ (.int .i64 (wrap64 (s.ks 3 - 1)))).drew = w3 at *
  have v0 : w3.cell? ⟨w.heap.size, 0, none⟩ = some (.int .i64 3) := (cell_of_blk B4.out).trans rfl
  have v1 : w3.cell? ⟨w.heap.size, 1, none⟩ = some (.int .i64 n) := (cell_of_blk B4.out).trans rfl
  have v2 : w3.cell? ⟨w.heap.size, 2, none⟩ = some (.string str) := (cell_of_blk B4.out).trans rfl
  have v3 : w3.cell? ⟨w.heap.size, 3, none⟩ = some (.bool true) := (cell_of_blk B4.out).trans rfl
  have v4 : w3.cell? ⟨w.heap.size, 4, none⟩ = some (.int .i64 c) := (cell_of_blk B4.out).trans rfl
  have ct := T4.out.rep.ct (i := 1) (by decide)
  have ft := T4.out.rep.free 5
  simp only [Nat.reduceAdd] at ct
  have T5 := Aside0.mk (T4.out.tr (i := 1) (by decide) (wrap64 (s.tr 1 - 1))).drew
  clear T4 B4
  go_wp2_with fail
  go_still_tail 12, (by kernel_rfl)
  still_call (place_same _ _)
  repeat still_step
  refine wpStill_nil ?_
  go_wp2
  go_ret
  exact ⟨rfl, T5.out⟩
set_option maxHeartbeats 3200000 in
set_option maxRecDepth 100000 in
theorem drop_false {w : World} {t : Nat} {s : TS} {n : Int} {str : ByteArray} {c : Int} (h : TRep w t s) (hv : value_Check.f 3 n str false c = some 0) {q : Int} (hq : q ≠ 0) (ho : ∀ w1, TRep w1 t s → Calls Try.prog 20 #[.pointer (some ⟨t, 0, none⟩), .agg #[.int .i64 3, .int .i64 n, .string str, .bool false, .int .i64 c]] w1 fun e w' => e = .returned (.int .i64 q) ∧ Below w1.heap.size w1 w') :
    Calls Try.prog 15 #[.pointer (some ⟨t, 0, none⟩), .agg #[.int .i64 3, .int .i64 n, .string str, .bool false, .int .i64 c]] w fun e w' => e = .returned (.int .i64 0) ∧
      TW w t s w' { s.minus 3 with tr := up s.tr 0 (wrap64 (s.tr 0 - 1)) } := by
  have hu25 := Try.underlying25
  have T0 := Aside0.mk ((TW.refl h).alloc (.cells #[.int .i64 3, .int .i64 n, .string str, .bool false, .int .i64 c] 25))
  have B0 := Aside0.mk (blk_alloc_new w (.cells #[.int .i64 3, .int .i64 n, .string str, .bool false, .int .i64 c] 25))
  have HV := Aside0.mk hv
  have d1 : (q == 0) = false := beq_eq_false_iff_ne.mpr hq
  have HO := Aside0.mk ho
  clear h hv ho hq
  go_enter Try.func15, Try.ntmps15
  go_upto_region 6 with (first | (go_at_call 50; with_reducible refine (made_calls T0.out.rep).mono ?_; rintro e w' ⟨rfl, rfl⟩) | (go_at_call 33; with_reducible refine (value_Check.calls _ _ _ _ _ _ _ HV.out).mono ?_; rintro e w1 ⟨rfl, hb⟩; have T1 := Aside0.mk (T0.out.below hb); have B1 := Aside0.mk ((hb.block w.heap.size (by simp)).trans B0.out); clear hb))
  have v0 : w1.cell? ⟨w.heap.size, 0, none⟩ = some (.int .i64 3) := (cell_of_blk B1.out).trans rfl
  have v1 : w1.cell? ⟨w.heap.size, 1, none⟩ = some (.int .i64 n) := (cell_of_blk B1.out).trans rfl
  have v2 : w1.cell? ⟨w.heap.size, 2, none⟩ = some (.string str) := (cell_of_blk B1.out).trans rfl
  have v3 : w1.cell? ⟨w.heap.size, 3, none⟩ = some (.bool false) := (cell_of_blk B1.out).trans rfl
  have v4 : w1.cell? ⟨w.heap.size, 4, none⟩ = some (.int .i64 c) := (cell_of_blk B1.out).trans rfl
  go_upto_region 8 with (first | (go_at_call 20; with_reducible refine (HO.out _ T1.out.rep).mono ?_; rintro e w1 ⟨rfl, hb⟩; have T1' := Aside0.mk (T1.out.below hb); have B1' := Aside0.mk ((hb.block w.heap.size (Array.getElem?_eq_some_iff.1 B1.out).1).trans B1.out); clear T1 B1 hb; have T1 := T1'; have B1 := B1'; clear T1' B1'))
  clear v0 v1 v2 v3 v4
  have nv : ¬ w.heap.size = t := fun e => by
    have a := B1.out
    rw [e, T1.out.rep.tb] at a
    have := Obj.cells.inj (Option.some.inj a)
    exact absurd this.2.1 (by decide)
  have nv' : ¬ t = w.heap.size := fun e => nv e.symm
  have ca := T1.out.rep.ca
  have fa := T1.out.rep.free 19
  have T2 := Aside0.mk (T1.out.all (wrap64 (s.all - 1)))
  have B2 := Aside0.mk ((blk_set_ne (w := w1) (b := t) (i := 19) nv (.int .i64 (wrap64 (s.all - 1)))).trans B1.out)
  clear T1 B1 B0 T0
  go_upto_region 9 with (fail)
  generalize w1.setCell ⟨t, 19, none⟩ (.int .i64 (wrap64 (s.all - 1))) = w2 at *
  clear ca fa
  have v0 : w2.cell? ⟨w.heap.size, 0, none⟩ = some (.int .i64 3) := (cell_of_blk B2.out).trans rfl
  have ck := T2.out.rep.ck (i := 3) (by decide)
  have fk := T2.out.rep.free 17
  simp only [Nat.reduceAdd] at ck
  have T3 := Aside0.mk (T2.out.ks (i := 3) (by decide) (wrap64 (s.ks 3 - 1))).drew
  have B3 := Aside0.mk ((blk_set_ne (w := w2) (b := t) (i := 17) nv (.int .i64 (wrap64 (s.ks 3 - 1)))).trans B2.out)
  clear T2 B2
  go_wp2_with fail
  go_region
  have B4 : Aside0 ((w2.setCell ⟨t, 17, none⟩ (.int .i64 (wrap64 (s.ks 3 - 1)))).drew.heap[w.heap.size]? = some (.cells #[.int .i64 3, .int .i64 n, .string str, .bool false, .int .i64 c] 25)) := B3
  clear B3 v0 ck fk
  have T4 : Aside0 (TW w t s (w2.setCell ⟨t, 17, none⟩ (.int .i64 (wrap64 (s.ks 3 - 1)))).drew (s.minus 3)) := T3
  clear T3
  generalize (w2.setCell ⟨t, 17, none⟩ (.int .i64 (wrap64 (s.ks 3 - 1)))).drew = w3 at *
  have v0 : w3.cell? ⟨w.heap.size, 0, none⟩ = some (.int .i64 3) := (cell_of_blk B4.out).trans rfl
  have v1 : w3.cell? ⟨w.heap.size, 1, none⟩ = some (.int .i64 n) := (cell_of_blk B4.out).trans rfl
  have v2 : w3.cell? ⟨w.heap.size, 2, none⟩ = some (.string str) := (cell_of_blk B4.out).trans rfl
  have v3 : w3.cell? ⟨w.heap.size, 3, none⟩ = some (.bool false) := (cell_of_blk B4.out).trans rfl
  have v4 : w3.cell? ⟨w.heap.size, 4, none⟩ = some (.int .i64 c) := (cell_of_blk B4.out).trans rfl
  have ct := T4.out.rep.ct (i := 0) (by decide)
  have ft := T4.out.rep.free 4
  simp only [Nat.reduceAdd] at ct
  have T5 := Aside0.mk (T4.out.tr (i := 0) (by decide) (wrap64 (s.tr 0 - 1))).drew
  clear T4 B4
  go_wp2_with fail
  go_still_tail 12, (by kernel_rfl)
  still_call (place_same _ _)
  repeat still_step
  refine wpStill_nil ?_
  go_wp2
  go_ret
  exact ⟨rfl, T5.out⟩
end Go.Proofs.Ytlglopainaploaa.Tal
