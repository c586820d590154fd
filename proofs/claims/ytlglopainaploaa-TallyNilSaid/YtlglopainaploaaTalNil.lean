/- Of no tally, and of one that nothing made: what each call tells. -/
import Derived.Test.YtlglopainaploaaTalPb
namespace Go.Proofs.Ytlglopainaploaa.Tal
open Go.RowKit Go.Proofs.YtlglopainaploaaW.PrintWords Go.Proofs.YtlglopainaploaaW.PrintLast Go.Proofs.YtlglopainaploaaW.PrintMore
set_option linter.unusedVariables false
set_option linter.unusedSimpArgs false

/-- No tally, or one that nothing made. -/
def Un (w : World) (a : Option Addr) : Prop := a = none ∨ ∃ t, a = some ⟨t, 0, none⟩ ∧ w.cell? ⟨t, 0, none⟩ = some (.pointer none)
theorem Un.below {w w' : World} {a : Option Addr} (h : Un w a) (b : Below w.heap.size w w') : Un w' a := by
  rcases h with h | ⟨t, e, c⟩
  · exact .inl h
  · exact .inr ⟨t, e, pw_cell_below b c⟩
theorem Un.alloc {w : World} {a : Option Addr} (h : Un w a) (o : Obj) : Un (w.alloc o) a := h.below (below_alloc (Below.refl _ _) o)
theorem made_un {w : World} {a : Option Addr} (h : Un w a) : Calls Try.prog 50 #[.pointer a] w fun e w' => e = .returned (.bool false) ∧ w' = w := by
  rcases h with rfl | ⟨t, rfl, c⟩
  · exact made_nil
  · exact made_zero c
set_option maxHeartbeats 1600000 in
set_option maxRecDepth 100000 in
theorem all_un {w : World} {a : Option Addr} (h : Un w a) : Calls Try.prog 17 #[.pointer a] w fun e w' => e = .returned (.int .i64 0) ∧ Below w.heap.size w w' := by
  have HU := Aside0.mk h
  clear h
  go_enter Try.func17, Try.ntmps17
  go_wp2_with (first | (go_at_call 50; with_reducible refine (made_un HU.out).mono ?_; rintro e w' ⟨rfl, rfl⟩))
  go_ret
  exact ⟨rfl, by repeat (first | exact Below.refl _ _ | apply below_alloc | apply pw_below_drewN)⟩
set_option maxHeartbeats 1600000 in
set_option maxRecDepth 100000 in
theorem fault_un {w : World} {a : Option Addr} (h : Un w a) : Calls Try.prog 18 #[.pointer a] w fun e w' => e = .returned (.int .i64 0) ∧ Below w.heap.size w w' := by
  have HU := Aside0.mk h
  clear h
  go_enter Try.func18, Try.ntmps18
  go_wp2_with (first | (go_at_call 50; with_reducible refine (made_un HU.out).mono ?_; rintro e w' ⟨rfl, rfl⟩))
  go_ret
  exact ⟨rfl, by repeat (first | exact Below.refl _ _ | apply below_alloc | apply pw_below_drewN)⟩
set_option maxHeartbeats 1600000 in
set_option maxRecDepth 100000 in
theorem below_un {w : World} {a : Option Addr} {n : Int} (h : Un w a) : Calls Try.prog 19 #[.pointer a, .int .i64 n] w fun e w' => e = .returned (.int .i64 0) ∧ Below w.heap.size w w' := by
  have HU := Aside0.mk h
  clear h
  go_enter Try.func19, Try.ntmps19
  go_wp2_with (first | (go_at_call 50; with_reducible refine (made_un HU.out).mono ?_; rintro e w' ⟨rfl, rfl⟩))
  go_ret
  exact ⟨rfl, by repeat (first | exact Below.refl _ _ | apply below_alloc | apply pw_below_drewN)⟩
set_option maxHeartbeats 1600000 in
set_option maxRecDepth 100000 in
theorem height_un {w : World} {a : Option Addr} (h : Un w a) : Calls Try.prog 21 #[.pointer a] w fun e w' => e = .returned (.int .i64 0) ∧ Below w.heap.size w w' := by
  have HU := Aside0.mk h
  clear h
  go_enter Try.func21, Try.ntmps21
  go_wp2_with (first | (go_at_call 50; with_reducible refine (made_un HU.out).mono ?_; rintro e w' ⟨rfl, rfl⟩))
  go_ret
  exact ⟨rfl, by repeat (first | exact Below.refl _ _ | apply below_alloc | apply pw_below_drewN)⟩
set_option maxHeartbeats 1600000 in
set_option maxRecDepth 100000 in
theorem count_un {w : World} {a : Option Addr} {k : Int} (h : Un w a) : Calls Try.prog 16 #[.pointer a, .int .i64 k] w fun e w' => e = .returned (.int .i64 0) ∧ Below w.heap.size w w' := by
  have HU := Aside0.mk h
  clear h
  go_enter Try.func16, Try.ntmps16
  go_wp2_with (first | (go_at_call 50; with_reducible refine (made_un HU.out).mono ?_; rintro e w' ⟨rfl, rfl⟩))
  go_ret
  exact ⟨rfl, by repeat (first | exact Below.refl _ _ | apply below_alloc | apply pw_below_drewN)⟩
set_option maxHeartbeats 1600000 in
set_option maxRecDepth 100000 in
theorem add_un {w : World} {a : Option Addr} {k n : Int} {s : ByteArray} {b : Bool} {c : Int} (h : Un w a) : Calls Try.prog 14 #[.pointer a, .agg #[.int .i64 k, .int .i64 n, .string s, .bool b, .int .i64 c]] w fun e w' => e = .returned (.int .i64 1) ∧ Below w.heap.size w w' := by
  have HU := Aside0.mk h
  clear h
  go_enter Try.func14, Try.ntmps14
  go_wp2_with (first | (go_at_call 50; with_reducible refine (made_un (HU.out.alloc _)).mono ?_; rintro e w' ⟨rfl, rfl⟩))
  go_ret
  exact ⟨rfl, by repeat (first | exact Below.refl _ _ | apply below_alloc | apply pw_below_drewN)⟩
set_option maxHeartbeats 1600000 in
set_option maxRecDepth 100000 in
theorem drop_un {w : World} {a : Option Addr} {k n : Int} {s : ByteArray} {b : Bool} {c : Int} (h : Un w a) : Calls Try.prog 15 #[.pointer a, .agg #[.int .i64 k, .int .i64 n, .string s, .bool b, .int .i64 c]] w fun e w' => e = .returned (.int .i64 1) ∧ Below w.heap.size w w' := by
  have HU := Aside0.mk h
  clear h
  go_enter Try.func15, Try.ntmps15
  go_wp2_with (first | (go_at_call 50; with_reducible refine (made_un (HU.out.alloc _)).mono ?_; rintro e w' ⟨rfl, rfl⟩))
  go_ret
  exact ⟨rfl, by repeat (first | exact Below.refl _ _ | apply below_alloc | apply pw_below_drewN)⟩
set_option maxHeartbeats 1600000 in
set_option maxRecDepth 100000 in
theorem often_un {w : World} {a : Option Addr} {k n : Int} {s : ByteArray} {b : Bool} {c : Int} (h : Un w a) : Calls Try.prog 20 #[.pointer a, .agg #[.int .i64 k, .int .i64 n, .string s, .bool b, .int .i64 c]] w fun e w' => e = .returned (.int .i64 0) ∧ Below w.heap.size w w' := by
  have HU := Aside0.mk h
  clear h
  go_enter Try.func20, Try.ntmps20
  go_wp2_with (first | (go_at_call 50; with_reducible refine (made_un (HU.out.alloc _)).mono ?_; rintro e w' ⟨rfl, rfl⟩))
  go_ret
  exact ⟨rfl, by repeat (first | exact Below.refl _ _ | apply below_alloc | apply pw_below_drewN)⟩
set_option maxHeartbeats 1600000 in
set_option maxRecDepth 100000 in
theorem asked_un {w : World} {a : Option Addr} {f : Value} (h : Un w a) : Calls Try.prog 40 #[.pointer a, f] w fun e w' => e = .returned (.tuple #[.int .i64 0, .int .i64 0]) ∧ Below w.heap.size w w' := by
  have HU := Aside0.mk h
  clear h
  go_enter Try.func40, Try.ntmps40
  go_wp2_with (first | (go_at_call 50; with_reducible refine (made_un HU.out).mono ?_; rintro e w' ⟨rfl, rfl⟩))
  go_ret2
  exact ⟨rfl, by repeat (first | exact Below.refl _ _ | apply below_alloc | apply pw_below_drewN)⟩
theorem below_of_alloc0 {w w' : World} {o : Obj} (h : Below (w.alloc o).heap.size (w.alloc o) w') : Below w.heap.size w w' := below_then (below_alloc (Below.refl _ _) o) (by simp) h
set_option maxHeartbeats 1600000 in
set_option maxRecDepth 100000 in
theorem sum_un {w : World} {a : Option Addr} (h : Un w a) : Calls Try.prog 9 #[.pointer a] w fun e w' => e = .returned (.tuple #[.int .i64 0, .int .i64 0]) ∧ Below w.heap.size w w' := by
  have HU := Aside0.mk h
  clear h
  go_enter Try.func9, Try.ntmps9
  go_wp2_with (first | (go_at_call 40; with_reducible refine (asked_un (HU.out.alloc _)).mono ?_; rintro e w' ⟨rfl, hb⟩; have HB := Aside0.mk hb; clear hb))
  go_ret2
  exact ⟨rfl, below_of_alloc0 (HB.out)⟩
set_option maxHeartbeats 1600000 in
set_option maxRecDepth 100000 in
theorem mean_un {w : World} {a : Option Addr} (h : Un w a) : Calls Try.prog 10 #[.pointer a] w fun e w' => e = .returned (.tuple #[.int .i64 0, .int .i64 0]) ∧ Below w.heap.size w w' := by
  have HU := Aside0.mk h
  clear h
  go_enter Try.func10, Try.ntmps10
  go_wp2_with (first | (go_at_call 40; with_reducible refine (asked_un (HU.out.alloc _)).mono ?_; rintro e w' ⟨rfl, hb⟩; have HB := Aside0.mk hb; clear hb))
  go_ret2
  exact ⟨rfl, below_of_alloc0 (HB.out)⟩
set_option maxHeartbeats 1600000 in
set_option maxRecDepth 100000 in
theorem median_un {w : World} {a : Option Addr} (h : Un w a) : Calls Try.prog 12 #[.pointer a] w fun e w' => e = .returned (.tuple #[.int .i64 0, .int .i64 0]) ∧ Below w.heap.size w w' := by
  have HU := Aside0.mk h
  clear h
  go_enter Try.func12, Try.ntmps12
  go_wp2_with (first | (go_at_call 40; with_reducible refine (asked_un (HU.out.alloc _)).mono ?_; rintro e w' ⟨rfl, hb⟩; have HB := Aside0.mk hb; clear hb))
  go_ret2
  exact ⟨rfl, below_of_alloc0 (HB.out)⟩
set_option maxHeartbeats 1600000 in
set_option maxRecDepth 100000 in
theorem small_un {w : World} {a : Option Addr} {k : Int} (h : Un w a) : Calls Try.prog 11 #[.pointer a, .int .i64 k] w fun e w' => e = .returned (.tuple #[.int .i64 0, .int .i64 0]) ∧ Below w.heap.size w w' := by
  have HU := Aside0.mk h
  clear h
  go_enter Try.func11, Try.ntmps11
  go_wp2_with (first | (go_at_call 40; with_reducible refine (asked_un ((HU.out.alloc _).alloc _)).mono ?_; rintro e w' ⟨rfl, hb⟩; have HB := Aside0.mk hb; clear hb))
  go_ret2
  exact ⟨rfl, below_of_alloc0 (below_of_alloc0 (HB.out))⟩
set_option maxHeartbeats 1600000 in
set_option maxRecDepth 100000 in
theorem end_un {w : World} {a : Option Addr} {k : Int} (h : Un w a) : Calls Try.prog 49 #[.pointer a, .int .i64 k] w fun e w' => e = .returned (.tuple #[.int .i64 0, .int .i64 0]) ∧ Below w.heap.size w w' := by
  have HU := Aside0.mk h
  clear h
  go_enter Try.func49, Try.ntmps49
  go_wp2_with (first | (go_at_call 40; with_reducible refine (asked_un ((HU.out.alloc _).alloc _)).mono ?_; rintro e w' ⟨rfl, hb⟩; have HB := Aside0.mk hb; clear hb))
  go_ret2
  exact ⟨rfl, below_of_alloc0 (below_of_alloc0 (HB.out))⟩
set_option maxHeartbeats 1600000 in
set_option maxRecDepth 100000 in
theorem least_un {w : World} {a : Option Addr} (h : Un w a) : Calls Try.prog 13 #[.pointer a] w fun e w' => e = .returned (.tuple #[.int .i64 0, .int .i64 0]) ∧ Below w.heap.size w w' := by
  have HU := Aside0.mk h
  clear h
  go_enter Try.func13, Try.ntmps13
  go_wp2_with (first | (go_at_call 49; with_reducible refine (end_un HU.out).mono ?_; rintro e w' ⟨rfl, hb⟩; have HB := Aside0.mk hb; clear hb))
  go_ret2
  exact ⟨rfl, HB.out⟩
end Go.Proofs.Ytlglopainaploaa.Tal
