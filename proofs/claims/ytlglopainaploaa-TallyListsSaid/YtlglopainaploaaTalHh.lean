/- What a tally refuses: a wrong value; to drop a value that is not there. -/
import Derived.Test.YtlglopainaploaaTalPd
namespace Go.Proofs.Ytlglopainaploaa.Tal
open Go.RowKit Go.Proofs.YtlglopainaploaaW.PrintWords Go.Proofs.YtlglopainaploaaW.PrintLast Go.Proofs.YtlglopainaploaaW.PrintMore
open Go.Proofs.Ytlglopainaploaa.PL Go.Proofs.Ytlglopainaploaa.Pure
set_option linter.unusedVariables false
set_option linter.unusedSimpArgs false

theorem turned_grown {w w' : World} {b : Nat} (h : w.mapTurned w' b) : w.grownBy w' (some b) := by
  obtain ⟨es, clock, es', clock', hb, rfl⟩ := h
  exact ⟨rfl, rfl, rfl, by simp [Go.ChangeMaps.setBlock], fun i _ hi => Go.ChangeMaps.heap_setBlock_other hb _ (fun e => hi (by rw [e]))⟩
set_option maxHeartbeats 3200000 in
set_option maxRecDepth 100000 in
theorem add_bad {w : World} {t : Nat} {s : TS} {k n : Int} {str : ByteArray} {b : Bool} {c : Int} (h : TRep w t s) (hv : value_Check.f k n str b c = some 2) :
    Calls Try.prog 14 #[.pointer (some ⟨t, 0, none⟩), .agg #[.int .i64 k, .int .i64 n, .string str, .bool b, .int .i64 c]] w fun e w' => e = .returned (.int .i64 2) ∧ Below w.heap.size w w' := by
  have hu25 := Try.underlying25
  have T0 := Aside0.mk (h.alloc (.cells #[.int .i64 k, .int .i64 n, .string str, .bool b, .int .i64 c] 25))
  have B0 := Aside0.mk (blk_alloc_new w (.cells #[.int .i64 k, .int .i64 n, .string str, .bool b, .int .i64 c] 25))
  have S0 := Aside0.mk (below_alloc (Below.refl w.heap.size w) (.cells #[.int .i64 k, .int .i64 n, .string str, .bool b, .int .i64 c] 25))
  have HV := Aside0.mk hv
  clear h hv
  go_enter Try.func14, Try.ntmps14
  go_wp2_with (first | (go_at_call 50; with_reducible refine (made_calls T0.out).mono ?_; rintro e w' ⟨rfl, rfl⟩) | (go_at_call 33; with_reducible refine (value_Check.calls _ _ _ _ _ _ _ HV.out).mono ?_; rintro e w1 ⟨rfl, hb⟩; have T1 := Aside0.mk (T0.out.below hb); have B1 := Aside0.mk ((hb.block w.heap.size (by simp)).trans B0.out); have S1 := Aside0.mk (below_step2 S0.out hb); clear hb))
  go_ret
  exact ⟨rfl, S1.out⟩
set_option maxHeartbeats 3200000 in
set_option maxRecDepth 100000 in
theorem often_bad {w : World} {t : Nat} {s : TS} {k n : Int} {str : ByteArray} {b : Bool} {c : Int} (h : TRep w t s) (hv : value_Check.f k n str b c = some 2) :
    Calls Try.prog 20 #[.pointer (some ⟨t, 0, none⟩), .agg #[.int .i64 k, .int .i64 n, .string str, .bool b, .int .i64 c]] w fun e w' => e = .returned (.int .i64 0) ∧ Below w.heap.size w w' := by
  have hu25 := Try.underlying25
  have T0 := Aside0.mk (h.alloc (.cells #[.int .i64 k, .int .i64 n, .string str, .bool b, .int .i64 c] 25))
  have B0 := Aside0.mk (blk_alloc_new w (.cells #[.int .i64 k, .int .i64 n, .string str, .bool b, .int .i64 c] 25))
  have S0 := Aside0.mk (below_alloc (Below.refl w.heap.size w) (.cells #[.int .i64 k, .int .i64 n, .string str, .bool b, .int .i64 c] 25))
  have HV := Aside0.mk hv
  clear h hv
  go_enter Try.func20, Try.ntmps20
  go_wp2_with (first | (go_at_call 50; with_reducible refine (made_calls T0.out).mono ?_; rintro e w' ⟨rfl, rfl⟩) | (go_at_call 33; with_reducible refine (value_Check.calls _ _ _ _ _ _ _ HV.out).mono ?_; rintro e w1 ⟨rfl, hb⟩; have T1 := Aside0.mk (T0.out.below hb); have B1 := Aside0.mk ((hb.block w.heap.size (by simp)).trans B0.out); have S1 := Aside0.mk (below_step2 S0.out hb); clear hb))
  go_ret
  exact ⟨rfl, S1.out⟩
set_option maxHeartbeats 3200000 in
set_option maxRecDepth 100000 in
theorem drop_bad {w : World} {t : Nat} {s : TS} {k n : Int} {str : ByteArray} {b : Bool} {c : Int} (h : TRep w t s) (hv : value_Check.f k n str b c = some 2) :
    Calls Try.prog 15 #[.pointer (some ⟨t, 0, none⟩), .agg #[.int .i64 k, .int .i64 n, .string str, .bool b, .int .i64 c]] w fun e w' => e = .returned (.int .i64 2) ∧ Below w.heap.size w w' := by
  have hu25 := Try.underlying25
  have T0 := Aside0.mk (h.alloc (.cells #[.int .i64 k, .int .i64 n, .string str, .bool b, .int .i64 c] 25))
  have B0 := Aside0.mk (blk_alloc_new w (.cells #[.int .i64 k, .int .i64 n, .string str, .bool b, .int .i64 c] 25))
  have S0 := Aside0.mk (below_alloc (Below.refl w.heap.size w) (.cells #[.int .i64 k, .int .i64 n, .string str, .bool b, .int .i64 c] 25))
  have HV := Aside0.mk hv
  clear h hv
  go_enter Try.func15, Try.ntmps15
  go_wp2_with (first | (go_at_call 50; with_reducible refine (made_calls T0.out).mono ?_; rintro e w' ⟨rfl, rfl⟩) | (go_at_call 33; with_reducible refine (value_Check.calls _ _ _ _ _ _ _ HV.out).mono ?_; rintro e w1 ⟨rfl, hb⟩; have T1 := Aside0.mk (T0.out.below hb); have B1 := Aside0.mk ((hb.block w.heap.size (by simp)).trans B0.out); have S1 := Aside0.mk (below_step2 S0.out hb); clear hb))
  go_ret
  exact ⟨rfl, S1.out⟩
set_option maxHeartbeats 3200000 in
set_option maxRecDepth 100000 in
theorem drop_none {w : World} {t : Nat} {s : TS} {k n : Int} {str : ByteArray} {b : Bool} {c : Int} (h : TRep w t s) (hv : value_Check.f k n str b c = some 0) (ho : ∀ w1, TRep w1 t s → Calls Try.prog 20 #[.pointer (some ⟨t, 0, none⟩), .agg #[.int .i64 k, .int .i64 n, .string str, .bool b, .int .i64 c]] w1 fun e w' => e = .returned (.int .i64 0) ∧ Below w1.heap.size w1 w') :
    Calls Try.prog 15 #[.pointer (some ⟨t, 0, none⟩), .agg #[.int .i64 k, .int .i64 n, .string str, .bool b, .int .i64 c]] w fun e w' => e = .returned (.int .i64 8) ∧ Below w.heap.size w w' := by
  have hu25 := Try.underlying25
  have T0 := Aside0.mk (h.alloc (.cells #[.int .i64 k, .int .i64 n, .string str, .bool b, .int .i64 c] 25))
  have B0 := Aside0.mk (blk_alloc_new w (.cells #[.int .i64 k, .int .i64 n, .string str, .bool b, .int .i64 c] 25))
  have S0 := Aside0.mk (below_alloc (Below.refl w.heap.size w) (.cells #[.int .i64 k, .int .i64 n, .string str, .bool b, .int .i64 c] 25))
  have HV := Aside0.mk hv
  have HO := Aside0.mk ho
  clear ho
  clear h hv
  go_enter Try.func15, Try.ntmps15
  go_upto_region 6 with (first | (go_at_call 50; with_reducible refine (made_calls T0.out).mono ?_; rintro e w' ⟨rfl, rfl⟩) | (go_at_call 33; with_reducible refine (value_Check.calls _ _ _ _ _ _ _ HV.out).mono ?_; rintro e w1 ⟨rfl, hb⟩; have T1 := Aside0.mk (T0.out.below hb); have B1 := Aside0.mk ((hb.block w.heap.size (by simp)).trans B0.out); have S1 := Aside0.mk (below_step2 S0.out hb); clear hb))
  have v0 : w1.cell? ⟨w.heap.size, 0, none⟩ = some (.int .i64 k) := (cell_of_blk B1.out).trans rfl
  have v1 : w1.cell? ⟨w.heap.size, 1, none⟩ = some (.int .i64 n) := (cell_of_blk B1.out).trans rfl
  have v2 : w1.cell? ⟨w.heap.size, 2, none⟩ = some (.string str) := (cell_of_blk B1.out).trans rfl
  have v3 : w1.cell? ⟨w.heap.size, 3, none⟩ = some (.bool b) := (cell_of_blk B1.out).trans rfl
  have v4 : w1.cell? ⟨w.heap.size, 4, none⟩ = some (.int .i64 c) := (cell_of_blk B1.out).trans rfl
  go_wp2_with (first | (go_at_call 20; with_reducible refine (HO.out _ T1.out).mono ?_; rintro e w2 ⟨rfl, hb⟩; have S2 := Aside0.mk (below_step2 S1.out hb); clear hb))
  go_ret
  exact ⟨rfl, S2.out⟩
set_option maxHeartbeats 3200000 in
set_option maxRecDepth 100000 in
theorem drop_text {w : World} {t : Nat} {s : TS} {n : Int} {str : ByteArray} {b : Bool} {c : Int} (h : TRep w t s) (hv : value_Check.f 2 n str b c = some 0) {m : Int} (hk : keyOf Try.prog 9 (.string (value_Fold.s str)) = some (keyS (value_Fold.s str))) (hn : s.n < maxLen) (hm : s.D.atKey (keyS (value_Fold.s str)) (.lit (.int .i64 0)) = .lit (.int .i64 m)) {q : Int} (hq : q ≠ 0) (ho : ∀ w1, TRep w1 t s → Calls Try.prog 20 #[.pointer (some ⟨t, 0, none⟩), .agg #[.int .i64 2, .int .i64 n, .string str, .bool b, .int .i64 c]] w1 fun e w' => e = .returned (.int .i64 q) ∧ Below w1.heap.size w1 w') :
    Calls Try.prog 15 #[.pointer (some ⟨t, 0, none⟩), .agg #[.int .i64 2, .int .i64 n, .string str, .bool b, .int .i64 c]] w fun e w' => e = .returned (.int .i64 0) ∧
      ∃ D', TW w t s w' { s.minus 2 with n := s.n + 1, D := D' } ∧ (D' = s.D.put (keyS (value_Fold.s str)) (.lit (.int .i64 (wrap64 (m - 1)))) ∨ (wrap64 (m - 1) = 0 ∧ D' = (s.D.put (keyS (value_Fold.s str)) (.lit (.int .i64 (wrap64 (m - 1))))).del (keyS (value_Fold.s str)))) := by
  have hu25 := Try.underlying25
  have T0 := Aside0.mk ((TW.refl h).alloc (.cells #[.int .i64 2, .int .i64 n, .string str, .bool b, .int .i64 c] 25))
  have B0 := Aside0.mk (blk_alloc_new w (.cells #[.int .i64 2, .int .i64 n, .string str, .bool b, .int .i64 c] 25))
  have HV := Aside0.mk hv
  have d1 : (q == 0) = false := beq_eq_false_iff_ne.mpr hq
  have HO := Aside0.mk ho
  have HK := Aside0.mk hk
  have HN := Aside0.mk hn
  have HM := Aside0.mk hm
  clear hk hn hm
  clear h hv ho hq
  go_enter Try.func15, Try.ntmps15
  go_upto_region 6 with (first | (go_at_call 50; with_reducible refine (made_calls T0.out.rep).mono ?_; rintro e w' ⟨rfl, rfl⟩) | (go_at_call 33; with_reducible refine (value_Check.calls _ _ _ _ _ _ _ HV.out).mono ?_; rintro e w1 ⟨rfl, hb⟩; have T1 := Aside0.mk (T0.out.below hb); have B1 := Aside0.mk ((hb.block w.heap.size (by simp)).trans B0.out); clear hb))
  have v0 : w1.cell? ⟨w.heap.size, 0, none⟩ = some (.int .i64 2) := (cell_of_blk B1.out).trans rfl
  have v1 : w1.cell? ⟨w.heap.size, 1, none⟩ = some (.int .i64 n) := (cell_of_blk B1.out).trans rfl
  have v2 : w1.cell? ⟨w.heap.size, 2, none⟩ = some (.string str) := (cell_of_blk B1.out).trans rfl
  have v3 : w1.cell? ⟨w.heap.size, 3, none⟩ = some (.bool b) := (cell_of_blk B1.out).trans rfl
  have v4 : w1.cell? ⟨w.heap.size, 4, none⟩ = some (.int .i64 c) := (cell_of_blk B1.out).trans rfl
  go_upto_region 8 with (first | (go_at_call 20; with_reducible refine (HO.out _ T1.out.rep).mono ?_; rintro e w1 ⟨rfl, hb⟩; have T1' := Aside0.mk (T1.out.below hb); have B1' := Aside0.mk ((hb.block w.heap.size (Array.getElem?_eq_some_iff.1 B1.out).1).trans B1.out); clear T1 B1 hb; have T1 := T1'; have B1 := B1'; clear T1' B1'))
  clear v0 v1 v2 v3 v4
  have nv : ¬ w.heap.size = t := fun e => by
    have a := B1.out
    rw [e, T1.out.rep.tb] at a
    have := Obj.cells.inj (Option.some.inj a)
    exact absurd this.2.1 (by decide)
  have nv' : ¬ t = w.heap.size := fun e => nv e.symm
  have ca := T1.out.rep.ca
  have fa := T1.out.rep.free 19
  have T2 := Aside0.mk (T1.out.all (wrap64 (s.all - 1)))
  have B2 := Aside0.mk ((blk_set_ne (w := w1) (b := t) (i := 19) nv (.int .i64 (wrap64 (s.all - 1)))).trans B1.out)
  clear T1 B1 B0 T0
  go_upto_region 9 with (fail)
  generalize w1.setCell ⟨t, 19, none⟩ (.int .i64 (wrap64 (s.all - 1))) = w2 at *
  clear ca fa
  have v0 : w2.cell? ⟨w.heap.size, 0, none⟩ = some (.int .i64 2) := (cell_of_blk B2.out).trans rfl
  have ck := T2.out.rep.ck (i := 2) (by decide)
  have fk := T2.out.rep.free 16
  simp only [Nat.reduceAdd] at ck
  have T3 := Aside0.mk (T2.out.ks (i := 2) (by decide) (wrap64 (s.ks 2 - 1))).drew
  have B3 := Aside0.mk ((blk_set_ne (w := w2) (b := t) (i := 16) nv (.int .i64 (wrap64 (s.ks 2 - 1)))).trans B2.out)
  clear T2 B2
  go_wp2_with fail
  go_region
  have B4 : Aside0 ((w2.setCell ⟨t, 16, none⟩ (.int .i64 (wrap64 (s.ks 2 - 1)))).drew.heap[w.heap.size]? = some (.cells #[.int .i64 2, .int .i64 n, .string str, .bool b, .int .i64 c] 25)) := B3
  clear B3 v0 ck fk
  have T4 : Aside0 (TW w t s (w2.setCell ⟨t, 16, none⟩ (.int .i64 (wrap64 (s.ks 2 - 1)))).drew (s.minus 2)) := T3
  clear T3
  generalize (w2.setCell ⟨t, 16, none⟩ (.int .i64 (wrap64 (s.ks 2 - 1)))).drew = w3 at *
  have v0 : w3.cell? ⟨w.heap.size, 0, none⟩ = some (.int .i64 2) := (cell_of_blk B4.out).trans rfl
  have v1 : w3.cell? ⟨w.heap.size, 1, none⟩ = some (.int .i64 n) := (cell_of_blk B4.out).trans rfl
  have v2 : w3.cell? ⟨w.heap.size, 2, none⟩ = some (.string str) := (cell_of_blk B4.out).trans rfl
  have v3 : w3.cell? ⟨w.heap.size, 3, none⟩ = some (.bool b) := (cell_of_blk B4.out).trans rfl
  have v4 : w3.cell? ⟨w.heap.size, 4, none⟩ = some (.int .i64 c) := (cell_of_blk B4.out).trans rfl
  have c3 := T4.out.rep.c3
  clear B4
  go_wp2_with fail
  refine (value_Fold.calls str (value_Fold.s str) w3 rfl).mono ?_
  rintro e w5 ⟨rfl, hb⟩
  have T7 := Aside0.mk (T4.out.below hb)
  have c3 := T7.out.rep.c3
  clear hb
  obtain ⟨c', hrun, hat, _⟩ := T7.out.rep.mp.lookup_int (Maps.string_keyed Try.underlying9) Try.underlying30 Try.underlying3 (zero3 _) HK.out
  obtain rfl := lit_one hat HM.out
  clear hat
  obtain ⟨w6, hup, own, gr⟩ := T7.out.rep.mp.update (Maps.string_keyed Try.underlying9) Try.underlying30 HN.out HK.out (plainElem_int Try.underlying3 (a := wrap64 (c' - 1)) (wrap64_wf _))
  have IM := T7.out.rep.mp.isMap
  have T8 := Aside0.mk (T7.out.map own gr)
  clear own gr
  have hup2 := hup
  rw [← i64_w] at hup2
  have c3' := T8.out.rep.c3
  obtain ⟨c'', hrun2, hat2, _⟩ := T8.out.rep.mp.lookup_int (Maps.string_keyed Try.underlying9) Try.underlying30 Try.underlying3 (zero3 _) HK.out
  have e2 : wrap64 (c' - 1) = c'' := lit_one ((Go.Maps.atKey_put_same (k := keyS (value_Fold.s str)) IM (by exact trivial) _ _)) hat2
  subst e2
  clear hat2
  by_cases z : wrap64 (c' - 1) = 0
  · have d2 : (wrap64 (c' - 1) == 0) = true := beq_iff_eq.mpr z
    have HZ := Aside0.mk z
    clear z
    obtain ⟨w7, hdel, own2, tu⟩ := T8.out.rep.mp.drop (Maps.string_keyed Try.underlying9) Try.underlying30 HK.out 0
    have T9 := Aside0.mk (T8.out.map own2 (turned_grown tu))
    clear own2 tu
    go_wp2
    go_ret
    exact ⟨rfl, _, T9.out, .inr ⟨HZ.out, rfl⟩⟩
  · have d2 : (wrap64 (c' - 1) == 0) = false := beq_eq_false_iff_ne.mpr z
    clear z
    go_wp2
    go_ret
    exact ⟨rfl, _, T8.out, .inl rfl⟩
end Go.Proofs.Ytlglopainaploaa.Tal
