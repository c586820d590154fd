/- A number is put in. -/
import Derived.Test.YtlglopainaploaaTalPb
import Derived.Test.YtlglopainaploaaPLx1
import Derived.BigRegion
namespace Go.Proofs.Ytlglopainaploaa.Tal
open Go.RowKit Go.Proofs.YtlglopainaploaaW.PrintWords Go.Proofs.YtlglopainaploaaW.PrintLast Go.Proofs.YtlglopainaploaaW.PrintMore
open Go.Proofs.Ytlglopainaploaa.PL
set_option linter.unusedVariables false
set_option linter.unusedSimpArgs false

set_option maxHeartbeats 3200000 in
set_option maxRecDepth 100000 in
theorem add_num {w : World} {t : Nat} {s : TS} {n : Int} {str : ByteArray} {b : Bool} {c : Int} {f : Nat} {h1 l1 e1 : Int} (h : TRep w t s) (hv : value_Check.f 1 n str b c = some 0) (ha : s.all < 4096) (hw : ∀ nb, w.heap.size ≤ nb → ∃ u H', withH f nb s.H s.p n = some (u, H')) (hs : wide_Add.f s.hi s.lo n = some (h1, l1, e1)) :
    Calls Try.prog 14 #[.pointer (some ⟨t, 0, none⟩), .agg #[.int .i64 1, .int .i64 n, .string str, .bool b, .int .i64 c]] w fun e w' => e = .returned (.int .i64 0) ∧
      ∃ nb u H', w.heap.size ≤ nb ∧ withH f nb s.H s.p n = some (u, H') ∧ TW w t s w' { s.plus 1 1 with p := some u, H := H', hi := h1, lo := l1 } := by
  have hu25 := Try.underlying25
  have T0 := Aside0.mk ((TW.refl h).alloc (.cells #[.int .i64 1, .int .i64 n, .string str, .bool b, .int .i64 c] 25))
  have B0 := Aside0.mk (blk_alloc_new w (.cells #[.int .i64 1, .int .i64 n, .string str, .bool b, .int .i64 c] 25))
  have HV := Aside0.mk hv
  have d1 : decide (4096 ≤ s.all) = false := decide_eq_false (by omega)
  have HW := Aside0.mk hw
  have HS := Aside0.mk hs
  clear hw hs
  clear h hv ha
  go_enter Try.func14, Try.ntmps14
  go_upto_region 6 with (first | (go_at_call 50; with_reducible refine (made_calls T0.out.rep).mono ?_; rintro e w' ⟨rfl, rfl⟩) | (go_at_call 33; with_reducible refine (value_Check.calls _ _ _ _ _ _ _ HV.out).mono ?_; rintro e w1 ⟨rfl, hb⟩; have T1 := Aside0.mk (T0.out.below hb); have B1 := Aside0.mk ((hb.block w.heap.size (by simp)).trans B0.out); clear hb))
  have nv : ¬ w.heap.size = t := fun e => by
    have a := B1.out
    rw [e, T1.out.rep.tb] at a
    have := Obj.cells.inj (Option.some.inj a)
    exact absurd this.2.1 (by decide)
  have nv' : ¬ t = w.heap.size := fun e => nv e.symm
  have ca := T1.out.rep.ca
  have fa := T1.out.rep.free 19
  have T2 := Aside0.mk (T1.out.all (wrap64 (s.all + 1)))
  have B2 := Aside0.mk ((blk_set_ne (w := w1) (b := t) (i := 19) nv (.int .i64 (wrap64 (s.all + 1)))).trans B1.out)
  clear T1 B1 B0 T0
  go_upto_region 9 with (fail)
  generalize w1.setCell ⟨t, 19, none⟩ (.int .i64 (wrap64 (s.all + 1))) = w2 at *
  clear ca fa
  have v0 : w2.cell? ⟨w.heap.size, 0, none⟩ = some (.int .i64 1) := (cell_of_blk B2.out).trans rfl
  have ck := T2.out.rep.ck (i := 1) (by decide)
  have fk := T2.out.rep.free 15
  simp only [Nat.reduceAdd] at ck
  have T3 := Aside0.mk (T2.out.ks (i := 1) (by decide) (wrap64 (s.ks 1 + 1))).drew
  have B3 := Aside0.mk ((blk_set_ne (w := w2) (b := t) (i := 15) nv (.int .i64 (wrap64 (s.ks 1 + 1)))).trans B2.out)
  clear T2 B2
  go_wp2_with fail
  go_region
  have B4 : Aside0 ((w2.setCell ⟨t, 15, none⟩ (.int .i64 (wrap64 (s.ks 1 + 1)))).drew.heap[w.heap.size]? = some (.cells #[.int .i64 1, .int .i64 n, .string str, .bool b, .int .i64 c] 25)) := B3
  clear B3 v0 ck fk
  have T4 : Aside0 (TW w t s (w2.setCell ⟨t, 15, none⟩ (.int .i64 (wrap64 (s.ks 1 + 1)))).drew (s.plus 1 1)) := T3
  clear T3
  generalize (w2.setCell ⟨t, 15, none⟩ (.int .i64 (wrap64 (s.ks 1 + 1)))).drew = w3 at *
  have v0 : w3.cell? ⟨w.heap.size, 0, none⟩ = some (.int .i64 1) := (cell_of_blk B4.out).trans rfl
  have v1 : w3.cell? ⟨w.heap.size, 1, none⟩ = some (.int .i64 n) := (cell_of_blk B4.out).trans rfl
  have v2 : w3.cell? ⟨w.heap.size, 2, none⟩ = some (.string str) := (cell_of_blk B4.out).trans rfl
  have v3 : w3.cell? ⟨w.heap.size, 3, none⟩ = some (.bool b) := (cell_of_blk B4.out).trans rfl
  have v4 : w3.cell? ⟨w.heap.size, 4, none⟩ = some (.int .i64 c) := (cell_of_blk B4.out).trans rfl
  have c0 := T4.out.rep.c0
  have cg := T4.out.rep.cg
  have fg := T4.out.rep.fg 0
  have LE : Aside0 (w.heap.size ≤ w3.heap.size) := ⟨T4.out.chg.size⟩
  obtain ⟨u, H', hW⟩ := HW.out w3.heap.size LE.out
  have W4 := Aside0.mk hW
  clear hW HW
  have nd : Aside0 (¬ dom s.H w.heap.size) := ⟨fun e => by
    obtain ⟨k, hk⟩ := dom_get e
    have a := T4.out.rep.rep w.heap.size k hk
    unfold KnAt at a
    rw [B4.out] at a
    have := Obj.cells.inj (Option.some.inj a)
    exact absurd this.2.1 (by decide)⟩
  have ng : Aside0 (w.heap.size ≠ s.g) := ⟨fun e => by
    have a := T4.out.rep.bb
    rw [show (s.plus 1 1).g = w.heap.size from e.symm, B4.out] at a
    have := Obj.cells.inj (Option.some.inj a)
    exact absurd this.2.1 (by decide)⟩
  have lt : Aside0 (w.heap.size < w3.heap.size) := ⟨(Array.getElem?_eq_some_iff.1 B4.out).1⟩
  go_upto_region 12 with (fail)
  go_cut [] (fun wc => Aside0 (TW w t s wc { s.plus 1 1 with p := some u, H := H' }) ∧ Aside0 (wc.heap[w.heap.size]? = w3.heap[w.heap.size]?))
  case first =>
    clear HS
    go_region_with (first | (go_at_call 51; refine (with_calls f (w := w3.drew) W4.out T4.out.rep.rep).mono ?_; rintro e w4 ⟨rfl, g1⟩; have V5 := Aside0.mk (g1.chg.block w.heap.size lt.out nd.out); have T5 := Aside0.mk ((TW.drew T4.out).wr g1); have c0 := T5.out.rep.c0; have cg := T5.out.rep.cg; have fg := T5.out.rep.fg 0; clear g1))
    all_goals
      go_wp2_with fail
      go_meet
      case rel => first | exact ⟨⟨(T5.out.root (some u)).drew⟩, ⟨(blk_set_ne ng.out _).trans V5.out⟩⟩ | exact ⟨⟨T5.out.root (some u)⟩, ⟨(blk_set_ne ng.out _).trans V5.out⟩⟩
  case rest =>
    obtain ⟨T6, BV⟩ := hcut
    have B6 := Aside0.mk (BV.out.trans B4.out)
    clear T4 BV c0 cg fg v0 v1 v2 v3 v4 nd ng lt
    have c1 := T6.out.rep.c1
    have c2 := T6.out.rep.c2
    have x1 : wc.cell? ⟨w.heap.size, 1, none⟩ = some (.int .i64 n) := (cell_of_blk B6.out).trans rfl
    have f1 := T6.out.rep.free 1
    have f2 := T6.out.rep.free 2
    go_wp2_with fail
    go_region_with (first | (go_at_call 48; refine (wide_Add.calls _ _ _ _ _ _ _ HS.out).mono ?_; rintro e w5 ⟨rfl, hb⟩; have T7 := Aside0.mk ((TW.drew T6.out).below hb); have f1 := T7.out.rep.free 1; have f2 := T7.out.rep.free 2; have c1 := T7.out.rep.c1; have c2 := T7.out.rep.c2; clear hb))
    all_goals
      go_wp2
      go_ret
      first
        | exact ⟨rfl, _, u, H', LE.out, W4.out, ((T7.out.cell (s2 := { s.plus 1 1 with p := some u, H := H', hi := h1 }) (i := 1) (v := .int .i64 h1) rfl rfl rfl rfl rfl rfl rfl).cell (s2 := { s.plus 1 1 with p := some u, H := H', hi := h1, lo := l1 }) (i := 2) (v := .int .i64 l1) rfl rfl rfl rfl rfl rfl rfl).drew⟩
        | exact ⟨rfl, _, u, H', LE.out, W4.out, ((T7.out.cell (s2 := { s.plus 1 1 with p := some u, H := H', hi := h1 }) (i := 1) (v := .int .i64 h1) rfl rfl rfl rfl rfl rfl rfl).cell (s2 := { s.plus 1 1 with p := some u, H := H', hi := h1, lo := l1 }) (i := 2) (v := .int .i64 l1) rfl rfl rfl rfl rfl rfl rfl)⟩
end Go.Proofs.Ytlglopainaploaa.Tal
