/- A tally in memory; what is asked of it without closures. A tally's fault; what is asked of it through a closure. What a tally tells of its numbers: sum, mean, ends, midst, the k-th. What a tally tells of its numbers: midst and mean. A value is put in. -/
import Derived.Test.YtlglopainaploaaTalPa
import Derived.Maps.OwnOps
import Derived.Maps.OwnSet
import Derived.Test.YtlglopainaploaaPLx1
import Derived.Test.YtlglopainaploaaPLx3
import Derived.Test.YtlglopainaploaaPLx3
import Derived.StillTailTactics
import Derived.Test.YtlglopainaploaaPLx1
import Derived.Test.YtlglopainaploaaPLx1
import Derived.Outline
/-! A tally in memory; what is asked of it without closures. -/
namespace Go.Proofs.Ytlglopainaploaa.Tal
open Go.RowKit Go.Proofs.YtlglopainaploaaW.PrintWords Go.Proofs.YtlglopainaploaaW.PrintLast Go.Proofs.YtlglopainaploaaW.PrintMore
set_option linter.unusedVariables false
set_option linter.unusedSimpArgs false

/-- What a tally holds: its bag's block, its map's, the tree's root and knots, the sum, the counts. -/
structure TS where
  g : Nat
  m : Nat
  n : Nat
  p : Option Nat
  H : KH
  hi : Int
  lo : Int
  D : DataW Unit
  tr : Nat → Int
  fs : Nat → Int
  ks : Nat → Int
  all : Int
def TS.arr (s : TS) : Array Value := #[.pointer (some ⟨s.g, 0, none⟩), .int .i64 s.hi, .int .i64 s.lo, .map (some s.m), .int .i64 (s.tr 0), .int .i64 (s.tr 1),
  .int .i64 (s.fs 0), .int .i64 (s.fs 1), .int .i64 (s.fs 2), .int .i64 (s.fs 3), .int .i64 (s.fs 4), .int .i64 (s.fs 5), .int .i64 (s.fs 6), .int .i64 (s.fs 7),
  .int .i64 (s.ks 0), .int .i64 (s.ks 1), .int .i64 (s.ks 2), .int .i64 (s.ks 3), .int .i64 (s.ks 4), .int .i64 s.all]
structure TRep (w : World) (t : Nat) (s : TS) : Prop where
  tb : w.heap[t]? = some (.cells s.arr 35)
  bb : w.heap[s.g]? = some (.cells #[.pointer (pa s.p)] 80)
  mp : w.ownsMap Try.prog 9 (plainElem Try.prog 3) s.m s.n s.D
  rep : Rep w s.H
def domT (t : Nat) (s : TS) (b : Nat) : Prop := b = t ∨ b = s.g ∨ b = s.m ∨ dom s.H b
structure TW (w : World) (t : Nat) (s : TS) (w' : World) (s' : TS) : Prop where
  rep : TRep w' t s'
  chg : Chg (domT t s) w w'
  dom : ∀ b, domT t s' b → domT t s b ∨ w.heap.size ≤ b
theorem TW.refl {w : World} {t : Nat} {s : TS} (h : TRep w t s) : TW w t s w s := ⟨h, Chg.refl _ _, fun _ h => .inl h⟩
theorem TRep.drewN {w : World} {t : Nat} {s : TS} (h : TRep w t s) (n : Nat) : TRep (w.drewN n) t s := ⟨h.tb, h.bb, h.mp, h.rep⟩
theorem TRep.drew {w : World} {t : Nat} {s : TS} (h : TRep w t s) : TRep w.drew t s := ⟨h.tb, h.bb, h.mp, h.rep⟩
theorem TW.drewN {w w' : World} {t : Nat} {s s' : TS} (h : TW w t s w' s') (n : Nat) : TW w t s (w'.drewN n) s' := ⟨h.rep.drewN n, h.chg.drewN n, h.dom⟩
theorem TW.drew {w w' : World} {t : Nat} {s s' : TS} (h : TW w t s w' s') : TW w t s w'.drew s' := ⟨h.rep.drew, h.chg.drew, h.dom⟩
theorem TW.trans {w w1 w2 : World} {t : Nat} {s s1 s2 : TS} (h : TW w t s w1 s1) (k : TW w1 t s1 w2 s2) : TW w t s w2 s2 :=
  ⟨k.rep, ⟨k.chg.os.trans h.chg.os, k.chg.tape.trans h.chg.tape, k.chg.output.trans h.chg.output, Nat.le_trans h.chg.size k.chg.size, fun i hi hd =>
    (k.chg.block i (Nat.lt_of_lt_of_le hi h.chg.size) (fun q => (h.dom i q).elim hd (fun q => absurd hi (Nat.not_lt.2 q)))).trans (h.chg.block i hi hd)⟩,
   fun b hb => (k.dom b hb).elim (h.dom b) (fun q => .inr (Nat.le_trans h.chg.size q))⟩
theorem TRep.lt {w : World} {t : Nat} {s : TS} (h : TRep w t s) {b : Nat} (hb : domT t s b) : b < w.heap.size := by
  rcases hb with rfl | rfl | rfl | hb
  · exact (Array.getElem?_eq_some_iff.1 h.tb).1
  · exact (Array.getElem?_eq_some_iff.1 h.bb).1
  · obtain ⟨es, cl, e, _⟩ := h.mp
    exact (Array.getElem?_eq_some_iff.1 e).1
  · obtain ⟨k, hk⟩ := dom_get hb
    exact (h.rep b k hk).lt
/-- A world that is as it was in a tally's blocks holds the tally. -/
theorem TRep.same {w w' : World} {t : Nat} {s : TS} (h : TRep w t s) (e : ∀ b, domT t s b → w'.heap[b]? = w.heap[b]?) : TRep w' t s := by
  refine ⟨(e t (.inl rfl)).trans h.tb, (e s.g (.inr (.inl rfl))).trans h.bb, ?_, fun b k hb => (e b (.inr (.inr (.inr (dom_of hb))))).trans (h.rep b k hb)⟩
  obtain ⟨es, cl, q, r⟩ := h.mp
  exact ⟨es, cl, (e s.m (.inr (.inr (.inl rfl)))).trans q, r⟩
theorem TRep.below {w w' : World} {t : Nat} {s : TS} (h : TRep w t s) (c : Below w.heap.size w w') : TRep w' t s := h.same (fun b hb => c.block b (h.lt hb))
theorem TRep.alloc {w : World} {t : Nat} {s : TS} (h : TRep w t s) (o : Obj) : TRep (w.alloc o) t s := h.same (fun b hb => Below.heap_alloc _ _ _ (h.lt hb))
theorem TW.below {w w' w2 : World} {t : Nat} {s s' : TS} (h : TW w t s w' s') (c : Below w'.heap.size w' w2) : TW w t s w2 s' :=
  ⟨h.rep.below c, ⟨c.os.trans h.chg.os, c.tape.trans h.chg.tape, c.output.trans h.chg.output, Nat.le_trans h.chg.size c.size, fun i hi hd => (c.block i (Nat.lt_of_lt_of_le hi h.chg.size)).trans (h.chg.block i hi hd)⟩, h.dom⟩
theorem Kd_ignore {α : Prop} (h : α) : α := h
theorem cell_of_blk {w : World} {b i : Nat} {arr : Array Value} {ty : TypeId} {f : Nat × Nat} (h : w.heap[b]? = some (.cells arr ty f)) : w.cell? ⟨b, i, none⟩ = arr[i]? := by
  simp [World.cell?, h]
theorem free_of_blk {w : World} {b i : Nat} {arr : Array Value} {ty : TypeId} (h : w.heap[b]? = some (.cells arr ty)) : w.frozen? ⟨b, i, none⟩ = false := by
  simp [World.frozen?, h]
theorem TRep.c0 {w : World} {t : Nat} {s : TS} (h : TRep w t s) : w.cell? ⟨t, 0, none⟩ = some (.pointer (some ⟨s.g, 0, none⟩)) := (cell_of_blk h.tb).trans rfl
theorem TRep.c1 {w : World} {t : Nat} {s : TS} (h : TRep w t s) : w.cell? ⟨t, 1, none⟩ = some (.int .i64 s.hi) := (cell_of_blk h.tb).trans rfl
theorem TRep.c2 {w : World} {t : Nat} {s : TS} (h : TRep w t s) : w.cell? ⟨t, 2, none⟩ = some (.int .i64 s.lo) := (cell_of_blk h.tb).trans rfl
theorem TRep.c3 {w : World} {t : Nat} {s : TS} (h : TRep w t s) : w.cell? ⟨t, 3, none⟩ = some (.map (some s.m)) := (cell_of_blk h.tb).trans rfl
theorem TRep.ca {w : World} {t : Nat} {s : TS} (h : TRep w t s) : w.cell? ⟨t, 19, none⟩ = some (.int .i64 s.all) := (cell_of_blk h.tb).trans rfl
theorem TRep.ct {w : World} {t : Nat} {s : TS} (h : TRep w t s) {i : Nat} (hi : i < 2) : w.cell? ⟨t, 4 + i, none⟩ = some (.int .i64 (s.tr i)) := by
  rw [cell_of_blk h.tb]
  match i, hi with
  | 0, _ => rfl
  | 1, _ => rfl
theorem TRep.cf {w : World} {t : Nat} {s : TS} (h : TRep w t s) {i : Nat} (hi : i < 8) : w.cell? ⟨t, 6 + i, none⟩ = some (.int .i64 (s.fs i)) := by
  rw [cell_of_blk h.tb]
  match i, hi with
  | 0, _ => rfl
  | 1, _ => rfl
  | 2, _ => rfl
  | 3, _ => rfl
  | 4, _ => rfl
  | 5, _ => rfl
  | 6, _ => rfl
  | 7, _ => rfl
theorem TRep.ck {w : World} {t : Nat} {s : TS} (h : TRep w t s) {i : Nat} (hi : i < 5) : w.cell? ⟨t, 14 + i, none⟩ = some (.int .i64 (s.ks i)) := by
  rw [cell_of_blk h.tb]
  match i, hi with
  | 0, _ => rfl
  | 1, _ => rfl
  | 2, _ => rfl
  | 3, _ => rfl
  | 4, _ => rfl
theorem TRep.free {w : World} {t : Nat} {s : TS} (h : TRep w t s) (i : Nat) : w.frozen? ⟨t, i, none⟩ = false := free_of_blk h.tb
theorem TRep.cg {w : World} {t : Nat} {s : TS} (h : TRep w t s) : w.cell? ⟨s.g, 0, none⟩ = some (.pointer (pa s.p)) := (cell_of_blk h.bb).trans rfl
theorem TRep.fg {w : World} {t : Nat} {s : TS} (h : TRep w t s) (i : Nat) : w.frozen? ⟨s.g, i, none⟩ = false := free_of_blk h.bb

set_option maxHeartbeats 1600000 in
set_option maxRecDepth 100000 in
theorem made_calls {w : World} {t : Nat} {s : TS} (h : TRep w t s) :
    Calls Try.prog 50 #[.pointer (some ⟨t, 0, none⟩)] w fun e w' => e = .returned (.bool true) ∧ w' = w := by
  have c0 := h.c0
  clear h
  go_enter Try.func50, Try.ntmps50
  go_wp2
  go_ret
  exact ⟨rfl, rfl⟩
set_option maxHeartbeats 1600000 in
set_option maxRecDepth 100000 in
theorem made_nil {w : World} :
    Calls Try.prog 50 #[.pointer none] w fun e w' => e = .returned (.bool false) ∧ w' = w := by
  go_enter Try.func50, Try.ntmps50
  go_wp2
  go_ret
  exact ⟨rfl, rfl⟩
set_option maxHeartbeats 1600000 in
set_option maxRecDepth 100000 in
theorem made_zero {w : World} {t : Nat} (c0 : w.cell? ⟨t, 0, none⟩ = some (.pointer none)) :
    Calls Try.prog 50 #[.pointer (some ⟨t, 0, none⟩)] w fun e w' => e = .returned (.bool false) ∧ w' = w := by
  go_enter Try.func50, Try.ntmps50
  go_wp2
  go_ret
  exact ⟨rfl, rfl⟩
set_option maxHeartbeats 1600000 in
set_option maxRecDepth 100000 in
theorem all_calls {w : World} {t : Nat} {s : TS} (h : TRep w t s) :
    Calls Try.prog 17 #[.pointer (some ⟨t, 0, none⟩)] w fun e w' => e = .returned (.int .i64 s.all) ∧ w' = w := by
  have ca := h.ca
  have HT := Aside0.mk h
  clear h
  go_enter Try.func17, Try.ntmps17
  go_wp2_with (first | (go_at_call 50; with_reducible refine (made_calls HT.out).mono ?_; rintro e w' ⟨rfl, rfl⟩))
  go_ret
  exact ⟨rfl, rfl⟩
set_option maxHeartbeats 1600000 in
set_option maxRecDepth 100000 in
theorem below_t {w : World} {t n : Nat} {s : TS} {x r : Int} (h : TRep w t s) (hb : belowH n s.H s.p x 0 = some r) :
    Calls Try.prog 19 #[.pointer (some ⟨t, 0, none⟩), .int .i64 x] w fun e w' => e = .returned (.int .i64 r) ∧ Drawn0 w w' := by
  have c0 := h.c0
  have HT := Aside0.mk h
  have HB := Aside0.mk hb
  clear h hb
  go_enter Try.func19, Try.ntmps19
  go_wp2_with (first | (go_at_call 50; with_reducible refine (made_calls HT.out).mono ?_; rintro e w' ⟨rfl, rfl⟩) | (go_at_call 55; with_reducible refine (below_calls HB.out HT.out.rep HT.out.cg).mono ?_; rintro e w' ⟨rfl, hd⟩; have HD := Aside0.mk hd; clear hd))
  go_ret
  exact ⟨rfl, HD.out⟩
set_option maxHeartbeats 1600000 in
set_option maxRecDepth 100000 in
theorem height_t {w : World} {t n : Nat} {s : TS} {r : Int} (h : TRep w t s) (hb : heightH n s.H s.p = some r) :
    Calls Try.prog 21 #[.pointer (some ⟨t, 0, none⟩)] w fun e w' => e = .returned (.int .i64 r) ∧ Drawn0 w w' := by
  have c0 := h.c0
  have cg := h.cg
  have HT := Aside0.mk h
  have HB := Aside0.mk hb
  clear h hb
  go_enter Try.func21, Try.ntmps21
  go_wp2_with (first | (go_at_call 50; with_reducible refine (made_calls HT.out).mono ?_; rintro e w' ⟨rfl, rfl⟩) | (go_at_call 57; with_reducible refine (height_calls n HB.out HT.out.rep).mono ?_; rintro e w' ⟨rfl, hd⟩; have HD := Aside0.mk hd; clear hd))
  go_ret
  exact ⟨rfl, HD.out⟩
set_option maxHeartbeats 1600000 in
set_option maxRecDepth 100000 in
theorem count_t {w : World} {t : Nat} {s : TS} {k : Nat} (h : TRep w t s) (hk : k < 5) :
    Calls Try.prog 16 #[.pointer (some ⟨t, 0, none⟩), .int .i64 (k : Int)] w fun e w' => e = .returned (.int .i64 (s.ks k)) ∧ Drawn0 w w' := by
  have ck := h.ck hk
  have HT := Aside0.mk h
  clear h
  have d1 : decide ((k : Int) < 0) = false := decide_eq_false (by omega)
  have d2 : decide (4 < (k : Int)) = false := decide_eq_false (by omega)
  have d3 : (0 ≤ (k : Int)) = True := eq_true (by omega)
  have d4 : ((k : Int) < 5) = True := eq_true (by omega)
  go_enter Try.func16, Try.ntmps16
  go_wp2_with (first | (go_at_call 50; with_reducible refine (made_calls HT.out).mono ?_; rintro e w' ⟨rfl, rfl⟩))
  go_ret
  exact ⟨rfl, Drawn0.refl _⟩
set_option maxHeartbeats 1600000 in
set_option maxRecDepth 100000 in
theorem count_out {w : World} {t : Nat} {s : TS} {k : Int} (h : TRep w t s) (hk : k < 0 ∨ 4 < k) :
    Calls Try.prog 16 #[.pointer (some ⟨t, 0, none⟩), .int .i64 k] w fun e w' => e = .returned (.int .i64 0) ∧ Drawn0 w w' := by
  have HT := Aside0.mk h
  clear h
  by_cases c : k < 0
  · have d1 : decide (k < 0) = true := decide_eq_true c
    clear c hk
    go_enter Try.func16, Try.ntmps16
    go_wp2_with (first | (go_at_call 50; with_reducible refine (made_calls HT.out).mono ?_; rintro e w' ⟨rfl, rfl⟩))
    go_ret
    exact ⟨rfl, Drawn0.refl _⟩
  · have d1 : decide (k < 0) = false := decide_eq_false c
    have d2 : decide (4 < k) = true := decide_eq_true (by omega)
    clear c hk
    go_enter Try.func16, Try.ntmps16
    go_wp2_with (first | (go_at_call 50; with_reducible refine (made_calls HT.out).mono ?_; rintro e w' ⟨rfl, rfl⟩))
    go_ret
    exact ⟨rfl, Drawn0.refl _⟩
end Go.Proofs.Ytlglopainaploaa.Tal
/-! A tally's fault; what is asked of it through a closure. -/
namespace Go.Proofs.Ytlglopainaploaa.Tal
open Go.RowKit Go.Proofs.YtlglopainaploaaW.PrintWords Go.Proofs.YtlglopainaploaaW.PrintLast Go.Proofs.YtlglopainaploaaW.PrintMore
set_option linter.unusedVariables false
set_option linter.unusedSimpArgs false

def faultL : Nat → (Nat → Int) → Nat → Int
  | 0, _, _ => 0
  | n + 1, fs, i => if 0 < fs i then (i : Int) else faultL n fs (i + 1)
def faultS (s : TS) : Int := faultL 8 s.fs 0
set_option maxRecDepth 1000000 in
theorem idx8 (s : TS) {i : Nat} (hi : i < 8) (w : World) : Sem.run Try.prog (Instr.index 32 (.agg #[.int .i64 (s.fs 0), .int .i64 (s.fs 1), .int .i64 (s.fs 2), .int .i64 (s.fs 3), .int .i64 (s.fs 4), .int .i64 (s.fs 5), .int .i64 (s.fs 6), .int .i64 (s.fs 7)]) (.int .i64 (i : Int))) w = .ok (.int .i64 (s.fs i)) w := by
  match i, hi with
  | 0, _ => rfl
  | 1, _ => rfl
  | 2, _ => rfl
  | 3, _ => rfl
  | 4, _ => rfl
  | 5, _ => rfl
  | 6, _ => rfl
  | 7, _ => rfl
set_option maxHeartbeats 1600000 in
set_option maxRecDepth 100000 in
theorem fault_t {w : World} {t : Nat} {s : TS} (h : TRep w t s) :
    Calls Try.prog 18 #[.pointer (some ⟨t, 0, none⟩)] w fun e w' => e = .returned (.int .i64 (faultS s)) ∧ Drawn0 w w' := by
  have e0 := h.cf (i := 0) (by decide)
  have e1 := h.cf (i := 1) (by decide)
  have e2 := h.cf (i := 2) (by decide)
  have e3 := h.cf (i := 3) (by decide)
  have e4 := h.cf (i := 4) (by decide)
  have e5 := h.cf (i := 5) (by decide)
  have e6 := h.cf (i := 6) (by decide)
  have e7 := h.cf (i := 7) (by decide)
  simp only [Nat.reduceAdd] at e0 e1 e2 e3 e4 e5 e6 e7
  have HT := Aside0.mk h
  clear h
  go_enter Try.func18, Try.ntmps18
  go_wp2_with (first | (go_at_call 50; with_reducible refine (made_calls HT.out).mono ?_; rintro e w' ⟨rfl, rfl⟩))
  have H' : Aside0 (faultL 8 s.fs 0 = faultS s) := ⟨rfl⟩
  clear e0 e1 e2 e3 e4 e5 e6 e7
  go_loopg [12] 8 (fun kq v12 w'' => ∃ i : Nat, v12 = .int .i64 (i : Int) ∧ Aside0 (i + kq = 8) ∧ Aside0 (faultL kq s.fs i = faultS s) ∧ Drawn0 w' w'')
  case atStart => exact ⟨0, rfl, ⟨rfl⟩, H', Drawn0.refl _⟩
  case round =>
    clear H'
    obtain ⟨i, rfl, HI, HF, ⟨m1, rfl⟩⟩ := hrel
    cases gk with
    | zero =>
      have h8 : i = 8 := HI.out
      subst h8
      have hf : 0 = faultS s := HF.out
      go_wp2
      go_ret
      exact ⟨by rw [← hf]; rfl, ⟨m1, rfl⟩⟩
    | succ k1 =>
      have h8 : i < 8 := by have := HI.out; omega
      have d1 : decide ((i : Int) < 8) = true := decide_eq_true (by omega)
      have d2 : (0 ≤ (i : Int)) = True := eq_true (by omega)
      have d3 : ((i : Int) < 8) = True := eq_true (by omega)
      have ix := idx8 s h8
      have hf := HF.out
      simp only [faultL] at hf
      have wi : wrap64 ((i : Int) + 1) = ((i + 1 : Nat) : Int) := by unfold wrap64; omega
      by_cases c : 0 < s.fs i
      · rw [if_pos c] at hf
        have d4 : decide (0 < s.fs i) = true := decide_eq_true c
        have HF' := Aside0.mk hf
        clear c wi hf
        go_wp2
        go_ret
        exact ⟨by rw [← HF'.out]; rfl, ⟨m1, rfl⟩⟩
      · rw [if_neg c] at hf
        have d4 : decide (0 < s.fs i) = false := decide_eq_false c
        have HF' := Aside0.mk hf
        clear c hf
        go_wp2
        go_roundg k1
        case measure => omega
        case rel => exact ⟨i + 1, by first | rfl | (simp [wi]; done) | (rw [wi]; done), ⟨by have := HI.out; omega⟩, HF', ⟨m1, rfl⟩⟩
theorem below_of_drawn {w w' : World} (h : Drawn0 w w') : Below w.heap.size w w' := by obtain ⟨n, rfl⟩ := h; exact pw_below_drewN (Below.refl _ _) n
set_option maxHeartbeats 1600000 in
set_option maxRecDepth 100000 in
theorem asked_calls {w : World} {t F : Nat} {cap : Array Value} {s : TS} {r1 r2 : Int} (hc : ∀ w, (callFunc F cap).run Try.prog w = .ok (.enter F cap) w) (h : TRep w t s) (hf : faultS s ≠ 0 → r1 = 0 ∧ r2 = faultS s)
    (hz : faultS s = 0 → ∀ n, Calls Try.prog F cap (w.drewN n) fun e w' => e = .returned (.tuple #[.int .i64 r1, .int .i64 r2]) ∧ Below w.heap.size w w') :
    Calls Try.prog 40 #[.pointer (some ⟨t, 0, none⟩), .func (.func F) #[] cap] w fun e w' => e = .returned (.tuple #[.int .i64 r1, .int .i64 r2]) ∧ Below w.heap.size w w' := by
  have HT := Aside0.mk h
  clear h
  by_cases c : faultS s = 0
  · have HZ := Aside0.mk (hz c)
    have d : (faultS s != 0) = false := bne_eq_false_iff_eq.mpr c
    clear hf hz c
    go_enter Try.func40, Try.ntmps40
    go_wp2_with (first | (go_at_call 50; with_reducible refine (made_calls HT.out).mono ?_; rintro e w' ⟨rfl, rfl⟩) | (go_at_call 18; with_reducible refine (fault_t HT.out).mono ?_; rintro e w' ⟨rfl, ⟨m1, rfl⟩⟩))
    refine (HZ.out m1).mono ?_
    rintro e w' ⟨rfl, hb⟩
    have HB := Aside0.mk hb
    clear hb
    go_wp2
    go_ret2
    exact ⟨rfl, HB.out⟩
  · obtain ⟨rfl, rfl⟩ := hf c
    have d : (faultS s != 0) = true := bne_iff_ne.mpr c
    clear hf hz c
    go_enter Try.func40, Try.ntmps40
    go_wp2_with (first | (go_at_call 50; with_reducible refine (made_calls HT.out).mono ?_; rintro e w' ⟨rfl, rfl⟩) | (go_at_call 18; with_reducible refine (fault_t HT.out).mono ?_; rintro e w' ⟨rfl, ⟨m1, rfl⟩⟩))
    go_ret2
    exact ⟨rfl, pw_below_drewN (Below.refl _ _) _⟩
end Go.Proofs.Ytlglopainaploaa.Tal
/-! What a tally tells of its numbers: sum, mean, ends, midst, the k-th. -/
namespace Go.Proofs.Ytlglopainaploaa.Tal
open Go.RowKit Go.Proofs.YtlglopainaploaaW.PrintWords Go.Proofs.YtlglopainaploaaW.PrintLast Go.Proofs.YtlglopainaploaaW.PrintMore
open Go.Proofs.Ytlglopainaploaa.PL
set_option linter.unusedVariables false
set_option linter.unusedSimpArgs false

def askR (s : TS) (r : Int × Int) : Int × Int := if faultS s = 0 then r else (0, faultS s)
theorem below_drewN {w w' : World} {n : Nat} (h : Below (w.drewN n).heap.size (w.drewN n) w') : Below w.heap.size w w' := ⟨h.os, h.tape, h.output, h.size, h.block⟩
theorem below_of_alloc {w w' : World} {o : Obj} (h : Below (w.alloc o).heap.size (w.alloc o) w') : Below w.heap.size w w' := below_then (below_alloc (Below.refl _ _) o) (by simp) h
theorem below_step2 {w w1 w' : World} (h : Below w.heap.size w w1) (k : Below w1.heap.size w1 w') : Below w.heap.size w w' := below_then h h.size k
theorem cell_alloc {w : World} {o : Obj} {a : Addr} {v : Value} (h : w.cell? a = some v) : (w.alloc o).cell? a = some v := (World.cell?_of_block (Below.heap_alloc _ _ _ (World.block_lt_of_cell? w a h))).trans h
theorem quiet_drawn2 {P : Program} {f : FuncId} {args : Array Value} {w : World} {k n : Nat} {v : Value} (h : Calls P f args (w.drewN (k + n)) fun e w' => e = .returned v ∧ Drawn0 (w.drewN (k + n)) w') :
    Calls P f args (w.drewN (k + n)) fun e w'' => e = .returned v ∧ ∃ m, w'' = w.drewN (k + m) := h.mono fun _ _ ⟨he, ⟨m, hm⟩⟩ => ⟨he, n + m, by rw [hm]; simp [World.drewN, Nat.add_assoc]⟩
/-- What is asked, with its answer where there is no fault. -/
theorem asked_with {w : World} {t F : Nat} {cap : Array Value} {s : TS} {r : Int × Int} (hc : ∀ w, (callFunc F cap).run Try.prog w = .ok (.enter F cap) w) (h : TRep w t s)
    (hz : ∀ n, Calls Try.prog F cap (w.drewN n) fun e w' => e = .returned (.tuple #[.int .i64 r.1, .int .i64 r.2]) ∧ Below (w.drewN n).heap.size (w.drewN n) w') :
    Calls Try.prog 40 #[.pointer (some ⟨t, 0, none⟩), .func (.func F) #[] cap] w fun e w' => e = .returned (.tuple #[.int .i64 (askR s r).1, .int .i64 (askR s r).2]) ∧ Below w.heap.size w w' := by
  by_cases c : faultS s = 0
  · have e : askR s r = r := if_pos c
    rw [e]
    exact asked_calls hc h (fun q => absurd c q) (fun _ n => (hz n).mono fun e w' ⟨h1, h2⟩ => ⟨h1, below_drewN h2⟩)
  · have e : askR s r = (0, faultS s) := if_neg c
    rw [e]
    exact asked_calls hc h (fun _ => ⟨rfl, rfl⟩) (fun q => absurd q c)
set_option maxHeartbeats 1600000 in
set_option maxRecDepth 100000 in
theorem sum1_calls {w : World} {g t : Nat} {s : TS} {n e : Int} (hg : w.cell? ⟨g, 0, none⟩ = some (.pointer (some ⟨t, 0, none⟩))) (h : TRep w t s) (hw : wide_Total.f s.hi s.lo = some (n, e)) :
    Calls Try.prog 41 #[.pointer (some ⟨g, 0, none⟩)] w fun q w' => q = .returned (.tuple #[.int .i64 (if e = 0 then (n, 0) else ((0 : Int), (5 : Int))).1, .int .i64 (if e = 0 then (n, 0) else ((0 : Int), (5 : Int))).2]) ∧ Below w.heap.size w w' := by
  have c1 := h.c1
  have c2 := h.c2
  have HW := Aside0.mk hw
  clear h hw
  by_cases z : e = 0
  · rw [if_pos z]
    have d : (e != 0) = false := bne_eq_false_iff_eq.mpr z
    clear z
    go_enter Try.func41, Try.ntmps41
    go_wp2_with (first | (go_at_call 42; with_reducible refine (wide_Total.calls _ _ _ _ _ HW.out).mono ?_; rintro q w' ⟨rfl, hb⟩; have HB := Aside0.mk hb; clear hb))
    go_ret2
    exact ⟨rfl, HB.out⟩
  · rw [if_neg z]
    have d : (e != 0) = true := bne_iff_ne.mpr z
    clear z
    go_enter Try.func41, Try.ntmps41
    go_wp2_with (first | (go_at_call 42; with_reducible refine (wide_Total.calls _ _ _ _ _ HW.out).mono ?_; rintro q w' ⟨rfl, hb⟩; have HB := Aside0.mk hb; clear hb))
    go_ret2
    exact ⟨rfl, HB.out⟩
def sumR (s : TS) (n e : Int) : Int × Int := askR s (if e = 0 then (n, 0) else (0, 5))
set_option maxHeartbeats 1600000 in
set_option maxRecDepth 100000 in
theorem sum_t {w : World} {t : Nat} {s : TS} {n e : Int} (h : TRep w t s) (hw : wide_Total.f s.hi s.lo = some (n, e)) :
    Calls Try.prog 9 #[.pointer (some ⟨t, 0, none⟩)] w fun q w' => q = .returned (.tuple #[.int .i64 (sumR s n e).1, .int .i64 (sumR s n e).2]) ∧ Below w.heap.size w w' := by
  have HT := Aside0.mk (h.alloc (.cells #[.pointer (some ⟨t, 0, none⟩)] 26))
  have HW := Aside0.mk hw
  clear h hw
  have C : Aside0 (Calls Try.prog 40 #[.pointer (some ⟨t, 0, none⟩), .func (.func 41) #[] #[.pointer (some ⟨w.heap.size, 0, none⟩)]] (w.alloc (.cells #[.pointer (some ⟨t, 0, none⟩)] 26)) fun q w' => q = .returned (.tuple #[.int .i64 (sumR s n e).1, .int .i64 (sumR s n e).2]) ∧ Below (w.alloc (.cells #[.pointer (some ⟨t, 0, none⟩)] 26)).heap.size (w.alloc (.cells #[.pointer (some ⟨t, 0, none⟩)] 26)) w') :=
    ⟨asked_with (fun w => enters_ Try.func41 (by kernel_rfl) rfl _ w) HT.out (fun m => sum1_calls (by simp [World.cell?_alloc_new]) (HT.out.drewN m) HW.out)⟩
  go_enter Try.func9, Try.ntmps9
  go_wp2_with (first | (go_at_call 40; with_reducible refine C.out.mono ?_; rintro q w' ⟨rfl, hb⟩; have HB := Aside0.mk hb; clear hb))
  go_ret2
  exact ⟨rfl, below_of_alloc HB.out⟩
set_option maxHeartbeats 1600000 in
set_option maxRecDepth 100000 in
theorem end1_calls {w : World} {g1 g2 t n b : Nat} {s : TS} {i x : Int} (h1 : w.cell? ⟨g1, 0, none⟩ = some (.pointer (some ⟨t, 0, none⟩))) (h2 : w.cell? ⟨g2, 0, none⟩ = some (.int .i64 i)) (h : TRep w t s)
    (hx : s.ks 1 ≠ 0 → s.p = some b ∧ atH n s.H b i = some x) :
    Calls Try.prog 85 #[.pointer (some ⟨g1, 0, none⟩), .pointer (some ⟨g2, 0, none⟩)] w fun q w' => q = .returned (.tuple #[.int .i64 (if s.ks 1 = 0 then ((0 : Int), (0 : Int)) else (x, 0)).1, .int .i64 (if s.ks 1 = 0 then ((0 : Int), (0 : Int)) else (x, 0)).2]) ∧ Below w.heap.size w w' := by
  have c0 := h.c0
  have ck := h.ck (i := 1) (by decide)
  simp only [Nat.reduceAdd] at ck
  have HT := Aside0.mk h
  clear h
  by_cases z : s.ks 1 = 0
  · rw [if_pos z]
    have d : (s.ks 1 == 0) = true := beq_iff_eq.mpr z
    clear z hx
    go_enter Try.func85, Try.ntmps85
    go_wp2
    go_ret2
    exact ⟨rfl, Below.refl _ _⟩
  · rw [if_neg z]
    obtain ⟨hp, ha⟩ := hx z
    have d : (s.ks 1 == 0) = false := beq_eq_false_iff_ne.mpr z
    have HG := Aside0.mk (HT.out.cg.trans (by rw [hp]; rfl : some (Value.pointer (pa s.p)) = some (.pointer (some ⟨b, 0, none⟩))))
    have HA := Aside0.mk ha
    clear z hx hp ha
    go_enter Try.func85, Try.ntmps85
    go_wp2_with fail
    go_quiet (first | (go_at_call 46; refine quiet_drawn (at_calls HA.out (HT.out.drewN _).rep HG.out)))
    go_wp2
    go_ret2
    exact ⟨rfl, by repeat (first | exact Below.refl _ _ | apply pw_below_drewN)⟩
def endR (s : TS) (x : Int) : Int × Int := askR s (if s.ks 1 = 0 then (0, 0) else (x, 0))
set_option maxHeartbeats 1600000 in
set_option maxRecDepth 100000 in
theorem end_t {w : World} {t n b : Nat} {s : TS} {i x : Int} (h : TRep w t s) (hx : s.ks 1 ≠ 0 → s.p = some b ∧ atH n s.H b i = some x) :
    Calls Try.prog 49 #[.pointer (some ⟨t, 0, none⟩), .int .i64 i] w fun q w' => q = .returned (.tuple #[.int .i64 (endR s x).1, .int .i64 (endR s x).2]) ∧ Below w.heap.size w w' := by
  have HT := Aside0.mk ((h.alloc (.cells #[.pointer (some ⟨t, 0, none⟩)] 26)).alloc (.cells #[.int .i64 i] 3))
  have HX := Aside0.mk hx
  have q1 : ((w.alloc (.cells #[.pointer (some ⟨t, 0, none⟩)] 26)).alloc (.cells #[.int .i64 i] 3)).cell? ⟨w.heap.size, 0, none⟩ = some (.pointer (some ⟨t, 0, none⟩)) := cell_alloc (by simp [World.cell?_alloc_new])
  have q2 : ((w.alloc (.cells #[.pointer (some ⟨t, 0, none⟩)] 26)).alloc (.cells #[.int .i64 i] 3)).cell? ⟨w.heap.size + 1, 0, none⟩ = some (.int .i64 i) := by
    simp
  have Q1 := Aside0.mk q1
  have Q2 := Aside0.mk q2
  clear h hx q1 q2
  have C : Aside0 (Calls Try.prog 40 #[.pointer (some ⟨t, 0, none⟩), .func (.func 85) #[] #[.pointer (some ⟨w.heap.size, 0, none⟩), .pointer (some ⟨w.heap.size + 1, 0, none⟩)]] ((w.alloc (.cells #[.pointer (some ⟨t, 0, none⟩)] 26)).alloc (.cells #[.int .i64 i] 3)) fun q w' => q = .returned (.tuple #[.int .i64 (endR s x).1, .int .i64 (endR s x).2]) ∧ Below ((w.alloc (.cells #[.pointer (some ⟨t, 0, none⟩)] 26)).alloc (.cells #[.int .i64 i] 3)).heap.size ((w.alloc (.cells #[.pointer (some ⟨t, 0, none⟩)] 26)).alloc (.cells #[.int .i64 i] 3)) w') :=
    ⟨asked_with (fun w => enters_ Try.func85 (by kernel_rfl) rfl _ w) HT.out (fun m => end1_calls Q1.out Q2.out (HT.out.drewN m) HX.out)⟩
  go_enter Try.func49, Try.ntmps49
  go_wp2_with (first | (go_at_call 40; with_reducible refine C.out.mono ?_; rintro q w' ⟨rfl, hb⟩; have HB := Aside0.mk hb; clear hb))
  go_ret2
  exact ⟨rfl, below_of_alloc (below_of_alloc HB.out)⟩
set_option maxHeartbeats 1600000 in
set_option maxRecDepth 100000 in
theorem least_t {w : World} {t n b : Nat} {s : TS} {x : Int} (h : TRep w t s) (hx : s.ks 1 ≠ 0 → s.p = some b ∧ atH n s.H b 0 = some x) :
    Calls Try.prog 13 #[.pointer (some ⟨t, 0, none⟩)] w fun q w' => q = .returned (.tuple #[.int .i64 (endR s x).1, .int .i64 (endR s x).2]) ∧ Below w.heap.size w w' := by
  have HT := Aside0.mk h
  have HX := Aside0.mk hx
  clear h hx
  go_enter Try.func13, Try.ntmps13
  go_wp2_with (first | (go_at_call 49; with_reducible refine (end_t HT.out HX.out).mono ?_; rintro q w' ⟨rfl, hb⟩; have HB := Aside0.mk hb; clear hb))
  go_ret2
  exact ⟨rfl, HB.out⟩
theorem count1_t {w : World} {t : Nat} {s : TS} (h : TRep w t s) :
    Calls Try.prog 16 #[.pointer (some ⟨t, 0, none⟩), .int .i64 1] w fun e w' => e = .returned (.int .i64 (s.ks 1)) ∧ Drawn0 w w' := count_t (k := 1) h (by decide)
set_option maxHeartbeats 1600000 in
set_option maxRecDepth 100000 in
theorem greatest_t {w : World} {t n b : Nat} {s : TS} {x : Int} (h : TRep w t s) (hx : s.ks 1 ≠ 0 → s.p = some b ∧ atH n s.H b (wrap64 (s.ks 1 - 1)) = some x) :
    Calls Try.prog 31 #[.pointer (some ⟨t, 0, none⟩)] w fun q w' => q = .returned (.tuple #[.int .i64 (endR s x).1, .int .i64 (endR s x).2]) ∧ Below w.heap.size w w' := by
  have HT := Aside0.mk h
  have HX := Aside0.mk hx
  clear h hx
  go_enter Try.func31, Try.ntmps31
  go_wp2_with (first | (go_at_call 16; with_reducible refine (count1_t HT.out).mono ?_; rintro q w' ⟨rfl, ⟨m1, rfl⟩⟩) | (go_at_call 49; with_reducible refine (end_t (HT.out.drewN _) HX.out).mono ?_; rintro q w' ⟨rfl, hb⟩; have HB := Aside0.mk hb; clear hb))
  go_ret2
  exact ⟨rfl, below_drewN HB.out⟩
set_option maxHeartbeats 1600000 in
set_option maxRecDepth 100000 in
theorem small1_calls {w : World} {g1 g2 t n b : Nat} {s : TS} {i x : Int} (h1 : w.cell? ⟨g1, 0, none⟩ = some (.int .i64 i)) (h2 : w.cell? ⟨g2, 0, none⟩ = some (.pointer (some ⟨t, 0, none⟩))) (h : TRep w t s)
    (hx : ¬ (i < 1 ∨ s.ks 1 < i) → s.p = some b ∧ atH n s.H b (wrap64 (i - 1)) = some x) :
    Calls Try.prog 45 #[.pointer (some ⟨g1, 0, none⟩), .pointer (some ⟨g2, 0, none⟩)] w fun q w' => q = .returned (.tuple #[.int .i64 (if i < 1 ∨ s.ks 1 < i then ((0 : Int), (5 : Int)) else (x, 0)).1, .int .i64 (if i < 1 ∨ s.ks 1 < i then ((0 : Int), (5 : Int)) else (x, 0)).2]) ∧ Below w.heap.size w w' := by
  have c0 := h.c0
  have ck := h.ck (i := 1) (by decide)
  simp only [Nat.reduceAdd] at ck
  have HT := Aside0.mk h
  clear h
  by_cases z : i < 1
  · rw [if_pos (.inl z)]
    have d : decide (i < 1) = true := decide_eq_true z
    clear z hx
    go_enter Try.func45, Try.ntmps45
    go_wp2_with fail
    go_quiet (fail)
    go_wp2
    go_ret2
    exact ⟨rfl, by repeat (first | exact Below.refl _ _ | apply pw_below_drewN)⟩
  · have d : decide (i < 1) = false := decide_eq_false z
    by_cases y : s.ks 1 < i
    · rw [if_pos (.inr y)]
      have d2 : decide (s.ks 1 < i) = true := decide_eq_true y
      clear z hx y
      go_enter Try.func45, Try.ntmps45
      go_wp2_with fail
      go_quiet (fail)
      go_wp2
      go_ret2
      exact ⟨rfl, by repeat (first | exact Below.refl _ _ | apply pw_below_drewN)⟩
    · have zy : ¬ (i < 1 ∨ s.ks 1 < i) := fun q => q.elim z y
      rw [if_neg zy]
      have d2 : decide (s.ks 1 < i) = false := decide_eq_false y
      obtain ⟨hp, ha⟩ := hx zy
      have HG := Aside0.mk (HT.out.cg.trans (by rw [hp]; rfl : some (Value.pointer (pa s.p)) = some (.pointer (some ⟨b, 0, none⟩))))
      have HA := Aside0.mk ha
      clear z hx hp ha y zy
      go_enter Try.func45, Try.ntmps45
      go_wp2_with fail
      go_quiet (fail)
      go_wp2_with fail
      go_quiet (first | (go_at_call 46; refine quiet_drawn2 (at_calls HA.out (HT.out.drewN _).rep HG.out)))
      go_wp2
      go_ret2
      exact ⟨rfl, by repeat (first | exact Below.refl _ _ | apply pw_below_drewN)⟩
def smallR (s : TS) (i x : Int) : Int × Int := askR s (if i < 1 ∨ s.ks 1 < i then (0, 5) else (x, 0))
set_option maxHeartbeats 1600000 in
set_option maxRecDepth 100000 in
theorem small_t {w : World} {t n b : Nat} {s : TS} {i x : Int} (h : TRep w t s) (hx : ¬ (i < 1 ∨ s.ks 1 < i) → s.p = some b ∧ atH n s.H b (wrap64 (i - 1)) = some x) :
    Calls Try.prog 11 #[.pointer (some ⟨t, 0, none⟩), .int .i64 i] w fun q w' => q = .returned (.tuple #[.int .i64 (smallR s i x).1, .int .i64 (smallR s i x).2]) ∧ Below w.heap.size w w' := by
  have HT := Aside0.mk ((h.alloc (.cells #[.pointer (some ⟨t, 0, none⟩)] 26)).alloc (.cells #[.int .i64 i] 3))
  have HX := Aside0.mk hx
  have q1 : ((w.alloc (.cells #[.pointer (some ⟨t, 0, none⟩)] 26)).alloc (.cells #[.int .i64 i] 3)).cell? ⟨w.heap.size, 0, none⟩ = some (.pointer (some ⟨t, 0, none⟩)) := cell_alloc (by simp [World.cell?_alloc_new])
  have q2 : ((w.alloc (.cells #[.pointer (some ⟨t, 0, none⟩)] 26)).alloc (.cells #[.int .i64 i] 3)).cell? ⟨w.heap.size + 1, 0, none⟩ = some (.int .i64 i) := by
    simp
  have Q1 := Aside0.mk q1
  have Q2 := Aside0.mk q2
  clear h hx q1 q2
  have C : Aside0 (Calls Try.prog 40 #[.pointer (some ⟨t, 0, none⟩), .func (.func 45) #[] #[.pointer (some ⟨w.heap.size + 1, 0, none⟩), .pointer (some ⟨w.heap.size, 0, none⟩)]] ((w.alloc (.cells #[.pointer (some ⟨t, 0, none⟩)] 26)).alloc (.cells #[.int .i64 i] 3)) fun q w' => q = .returned (.tuple #[.int .i64 (smallR s i x).1, .int .i64 (smallR s i x).2]) ∧ Below ((w.alloc (.cells #[.pointer (some ⟨t, 0, none⟩)] 26)).alloc (.cells #[.int .i64 i] 3)).heap.size ((w.alloc (.cells #[.pointer (some ⟨t, 0, none⟩)] 26)).alloc (.cells #[.int .i64 i] 3)) w') :=
    ⟨asked_with (fun w => enters_ Try.func45 (by kernel_rfl) rfl _ w) HT.out (fun m => small1_calls Q2.out Q1.out (HT.out.drewN m) HX.out)⟩
  go_enter Try.func11, Try.ntmps11
  go_wp2_with (first | (go_at_call 40; with_reducible refine C.out.mono ?_; rintro q w' ⟨rfl, hb⟩; have HB := Aside0.mk hb; clear hb))
  go_ret2
  exact ⟨rfl, below_of_alloc (below_of_alloc HB.out)⟩
end Go.Proofs.Ytlglopainaploaa.Tal
/-! What a tally tells of its numbers: midst and mean. -/
namespace Go.Proofs.Ytlglopainaploaa.Tal
open Go.RowKit Go.Proofs.YtlglopainaploaaW.PrintWords Go.Proofs.YtlglopainaploaaW.PrintLast Go.Proofs.YtlglopainaploaaW.PrintMore
open Go.Proofs.Ytlglopainaploaa.PL
set_option linter.unusedVariables false
set_option linter.unusedSimpArgs false

theorem cell_drewN {w : World} {a : Addr} {v : Value} {n : Nat} (h : w.cell? a = some v) : (w.drewN n).cell? a = some v := h
set_option maxHeartbeats 1600000 in
set_option maxRecDepth 100000 in
theorem median1_none {w : World} {g t : Nat} {s : TS} (h1 : w.cell? ⟨g, 0, none⟩ = some (.pointer (some ⟨t, 0, none⟩))) (h : TRep w t s) (hz : s.ks 1 = 0) :
    Calls Try.prog 47 #[.pointer (some ⟨g, 0, none⟩)] w fun q w' => q = .returned (.tuple #[.int .i64 0, .int .i64 5]) ∧ Below w.heap.size w w' := by
  have ck := h.ck (i := 1) (by decide)
  simp only [Nat.reduceAdd] at ck
  rw [hz] at ck
  clear h hz
  go_enter Try.func47, Try.ntmps47
  go_wp2
  go_ret2
  exact ⟨rfl, Below.refl _ _⟩
set_option maxHeartbeats 1600000 in
set_option maxRecDepth 100000 in
theorem median1_some {w : World} {g t n b k : Nat} {s : TS} {x y h1 l1 e1 h2 l2 e2 m e3 : Int} (hg : w.cell? ⟨g, 0, none⟩ = some (.pointer (some ⟨t, 0, none⟩))) (h : TRep w t s) (hz : ¬ s.ks 1 = 0)
    (hp : s.p = some b) (hx : atH n s.H b (wrap64 (Int.tdiv (wrap64 (s.ks 1 - 1)) 2)) = some x) (hy : atH n s.H b (wrap64 (Int.tdiv (s.ks 1) 2)) = some y)
    (w1 : wide_Add.f 0 0 x = some (h1, l1, e1)) (w2 : wide_Add.f h1 l1 y = some (h2, l2, e2)) (w3 : wide_Mean.f k h2 l2 2 = some (m, e3)) :
    Calls Try.prog 47 #[.pointer (some ⟨g, 0, none⟩)] w fun q w' => q = .returned (.tuple #[.int .i64 m, .int .i64 0]) ∧ Below w.heap.size w w' := by
  have c0 := h.c0
  have ck := h.ck (i := 1) (by decide)
  simp only [Nat.reduceAdd] at ck
  have d : (s.ks 1 == 0) = false := beq_eq_false_iff_ne.mpr hz
  have HT := Aside0.mk h
  have HG := Aside0.mk (h.cg.trans (by rw [hp]; rfl : some (Value.pointer (pa s.p)) = some (.pointer (some ⟨b, 0, none⟩))))
  have HX := Aside0.mk hx
  have HY := Aside0.mk hy
  have H1 := Aside0.mk w1
  have H2 := Aside0.mk w2
  have H3 := Aside0.mk w3
  clear h hz hp hx hy w1 w2 w3
  go_enter Try.func47, Try.ntmps47
  go_wp2_with fail
  go_quiet (first | (go_at_call 46; with_reducible refine quiet_drawn (at_calls HX.out (HT.out.drewN _).rep (cell_drewN HG.out))) | (go_at_call 46; with_reducible refine quiet_drawn (at_calls HY.out (HT.out.drewN _).rep (cell_drewN HG.out))))
  go_wp2_with fail
  with_reducible refine (wide_Add.calls _ _ _ _ _ _ _ H1.out).mono ?_
  rintro q w1 ⟨rfl, hb⟩
  have HB1 := Aside0.mk (below_drewN hb)
  clear hb
  go_wp2_with fail
  have BA : (w1.alloc (.cells #[.int .i64 h1, .int .i64 l1] 29)).heap[w1.heap.size]? = some (.cells #[.int .i64 h1, .int .i64 l1] 29) := blk_alloc_new _ _
  have HBA := Aside0.mk (below_alloc HB1.out (.cells #[.int .i64 h1, .int .i64 l1] 29))
  have LT : w1.heap.size < (w1.alloc (.cells #[.int .i64 h1, .int .i64 l1] 29)).heap.size := by simp
  have GE := Aside0.mk (show w.heap.size ≤ w1.heap.size from HB1.out.size)
  generalize w1.alloc (.cells #[.int .i64 h1, .int .i64 l1] 29) = wa at *
  generalize w1.heap.size = gw at *
  clear HB1
  with_reducible refine (wide_Add.calls _ _ _ _ _ _ _ H2.out).mono ?_
  rintro q w2 ⟨rfl, hb⟩
  have BB : w2.heap[gw]? = some (.cells #[.int .i64 h1, .int .i64 l1] 29) := (hb.block gw LT).trans BA
  have HB2 := Aside0.mk (below_step2 HBA.out hb)
  have x0 : w2.cell? ⟨gw, 0, none⟩ = some (.int .i64 h1) := (cell_of_blk BB).trans rfl
  have x1 : w2.cell? ⟨gw, 1, none⟩ = some (.int .i64 l1) := (cell_of_blk BB).trans rfl
  have f0 : w2.frozen? ⟨gw, 0, none⟩ = false := free_of_blk BB
  have f1 : w2.frozen? ⟨gw, 1, none⟩ = false := free_of_blk BB
  clear hb BA BB LT HBA c0 ck
  go_wp2_with fail
  with_reducible refine (wide_Mean.calls k _ _ _ _ _ _ H3.out).mono ?_
  rintro q w3 ⟨rfl, hb⟩
  have HB3 := Aside0.mk (below_step2 ((HB2.out.setCell (p := ⟨gw, 0, none⟩) GE.out (.int .i64 h2)).setCell (p := ⟨gw, 1, none⟩) GE.out (.int .i64 l2)) hb)
  clear hb
  go_wp2
  go_ret2
  exact ⟨rfl, HB3.out⟩
def medR (s : TS) (m : Int) : Int × Int := askR s (if s.ks 1 = 0 then (0, 5) else (m, 0))
/-- What the midst asks. -/
def MedOk (s : TS) (m : Int) : Prop := ∃ n b k x y h1 l1 e1 h2 l2 e2 e3, s.p = some b ∧ atH n s.H b (wrap64 (Int.tdiv (wrap64 (s.ks 1 - 1)) 2)) = some x ∧ atH n s.H b (wrap64 (Int.tdiv (s.ks 1) 2)) = some y ∧
  wide_Add.f 0 0 x = some (h1, l1, e1) ∧ wide_Add.f h1 l1 y = some (h2, l2, e2) ∧ wide_Mean.f k h2 l2 2 = some (m, e3)
set_option maxHeartbeats 1600000 in
set_option maxRecDepth 100000 in
theorem median_t {w : World} {t : Nat} {s : TS} {m : Int} (h : TRep w t s) (hm : s.ks 1 ≠ 0 → MedOk s m) :
    Calls Try.prog 12 #[.pointer (some ⟨t, 0, none⟩)] w fun q w' => q = .returned (.tuple #[.int .i64 (medR s m).1, .int .i64 (medR s m).2]) ∧ Below w.heap.size w w' := by
  have HT := Aside0.mk (h.alloc (.cells #[.pointer (some ⟨t, 0, none⟩)] 26))
  have S1 : ∀ j, Calls Try.prog 47 #[.pointer (some ⟨w.heap.size, 0, none⟩)] ((w.alloc (.cells #[.pointer (some ⟨t, 0, none⟩)] 26)).drewN j) fun q w' => q = .returned (.tuple #[.int .i64 (if s.ks 1 = 0 then ((0 : Int), (5 : Int)) else (m, 0)).1, .int .i64 (if s.ks 1 = 0 then ((0 : Int), (5 : Int)) else (m, 0)).2]) ∧ Below ((w.alloc (.cells #[.pointer (some ⟨t, 0, none⟩)] 26)).drewN j).heap.size ((w.alloc (.cells #[.pointer (some ⟨t, 0, none⟩)] 26)).drewN j) w' := fun j => by
    by_cases z : s.ks 1 = 0
    · rw [if_pos z]
      exact median1_none (by simp [World.cell?_alloc_new]) (HT.out.drewN j) z
    · rw [if_neg z]
      obtain ⟨n, b, k, x, y, h1, l1, e1, h2, l2, e2, e3, hp, hx, hy, w1, w2, w3⟩ := hm z
      exact median1_some (by simp [World.cell?_alloc_new]) (HT.out.drewN j) z hp hx hy w1 w2 w3
  have C : Aside0 (Calls Try.prog 40 #[.pointer (some ⟨t, 0, none⟩), .func (.func 47) #[] #[.pointer (some ⟨w.heap.size, 0, none⟩)]] (w.alloc (.cells #[.pointer (some ⟨t, 0, none⟩)] 26)) fun q w' => q = .returned (.tuple #[.int .i64 (medR s m).1, .int .i64 (medR s m).2]) ∧ Below (w.alloc (.cells #[.pointer (some ⟨t, 0, none⟩)] 26)).heap.size (w.alloc (.cells #[.pointer (some ⟨t, 0, none⟩)] 26)) w') :=
    ⟨asked_with (fun w => enters_ Try.func47 (by kernel_rfl) rfl _ w) HT.out S1⟩
  clear h hm S1
  go_enter Try.func12, Try.ntmps12
  go_wp2_with (first | (go_at_call 40; with_reducible refine C.out.mono ?_; rintro q w' ⟨rfl, hb⟩; have HB := Aside0.mk hb; clear hb))
  go_ret2
  exact ⟨rfl, below_of_alloc HB.out⟩
end Go.Proofs.Ytlglopainaploaa.Tal
/-! A value is put in. -/
namespace Go.Proofs.Ytlglopainaploaa.Tal
open Go.RowKit Go.Proofs.YtlglopainaploaaW.PrintWords Go.Proofs.YtlglopainaploaaW.PrintLast Go.Proofs.YtlglopainaploaaW.PrintMore
open Go.Proofs.Ytlglopainaploaa.PL
set_option linter.unusedVariables false
set_option linter.unusedSimpArgs false

def up (f : Nat → Int) (i : Nat) (x : Int) : Nat → Int := fun j => if j = i then x else f j
theorem TW.cell {w w' : World} {t : Nat} {s s' s2 : TS} {i : Nat} {v : Value} (h : TW w t s w' s') (he : s2.arr = s'.arr.setIfInBounds i v) (hg : s2.g = s'.g) (hm : s2.m = s'.m) (hn : s2.n = s'.n) (hp : s2.p = s'.p) (hH : s2.H = s'.H) (hD : s2.D = s'.D) :
    TW w t s (w'.setCell ⟨t, i, none⟩ v) s2 := by
  have ne1 : s'.g ≠ t := fun e => by
    have a := h.rep.tb; have b := h.rep.bb
    rw [e, a] at b
    have := Obj.cells.inj (Option.some.inj b)
    exact absurd this.2.1 (by decide)
  have ne2 : s'.m ≠ t := fun e => by
    have a := h.rep.tb
    obtain ⟨es, cl, b, _⟩ := h.rep.mp
    rw [e, a] at b
    cases b
  have ne3 : ∀ b k, s'.H b = some k → b ≠ t := fun b k hb e => by
    have a := h.rep.tb; have c := h.rep.rep b k hb
    unfold KnAt at c
    rw [e, a] at c
    have := Obj.cells.inj (Option.some.inj c)
    exact absurd this.2.1 (by decide)
  refine ⟨⟨?_, ?_, ?_, ?_⟩, ⟨h.chg.os, h.chg.tape, h.chg.output, by have := h.chg.size; simpa [World.setCell] using this, fun j hj hd => ?_⟩, fun b hb => ?_⟩
  · rw [he]; exact blk_set_same h.rep.tb _
  · rw [hg, hp, blk_set_ne ne1]; exact h.rep.bb
  · obtain ⟨es, cl, q, r⟩ := h.rep.mp
    rw [hm, hn, hD]
    exact ⟨es, cl, (blk_set_ne ne2 _).trans q, r⟩
  · rw [hH]
    intro b k hb
    unfold KnAt
    rw [blk_set_ne (ne3 b k hb)]
    exact h.rep.rep b k hb
  · rw [blk_set_ne (fun e => hd (.inl e))]
    exact h.chg.block j hj hd
  · have : domT t s' b := by
      rcases hb with e | e | e | e
      · exact .inl e
      · exact .inr (.inl (by rw [← hg]; exact e))
      · exact .inr (.inr (.inl (by rw [← hm]; exact e)))
      · exact .inr (.inr (.inr (by rw [← hH]; exact e)))
    exact h.dom b this
theorem arr_ks (s : TS) {i : Nat} (hi : i < 5) (x : Int) : ({ s with ks := up s.ks i x } : TS).arr = s.arr.setIfInBounds (14 + i) (.int .i64 x) := by
  match i, hi with
  | 0, _ => rfl
  | 1, _ => rfl
  | 2, _ => rfl
  | 3, _ => rfl
  | 4, _ => rfl
theorem arr_fs (s : TS) {i : Nat} (hi : i < 8) (x : Int) : ({ s with fs := up s.fs i x } : TS).arr = s.arr.setIfInBounds (6 + i) (.int .i64 x) := by
  match i, hi with
  | 0, _ => rfl
  | 1, _ => rfl
  | 2, _ => rfl
  | 3, _ => rfl
  | 4, _ => rfl
  | 5, _ => rfl
  | 6, _ => rfl
  | 7, _ => rfl
theorem arr_tr (s : TS) {i : Nat} (hi : i < 2) (x : Int) : ({ s with tr := up s.tr i x } : TS).arr = s.arr.setIfInBounds (4 + i) (.int .i64 x) := by
  match i, hi with
  | 0, _ => rfl
  | 1, _ => rfl
theorem TW.ks {w w' : World} {t : Nat} {s s' : TS} (h : TW w t s w' s') {i : Nat} (hi : i < 5) (x : Int) : TW w t s (w'.setCell ⟨t, 14 + i, none⟩ (.int .i64 x)) { s' with ks := up s'.ks i x } := h.cell (arr_ks s' hi x) rfl rfl rfl rfl rfl rfl
theorem TW.fs {w w' : World} {t : Nat} {s s' : TS} (h : TW w t s w' s') {i : Nat} (hi : i < 8) (x : Int) : TW w t s (w'.setCell ⟨t, 6 + i, none⟩ (.int .i64 x)) { s' with fs := up s'.fs i x } := h.cell (arr_fs s' hi x) rfl rfl rfl rfl rfl rfl
theorem TW.tr {w w' : World} {t : Nat} {s s' : TS} (h : TW w t s w' s') {i : Nat} (hi : i < 2) (x : Int) : TW w t s (w'.setCell ⟨t, 4 + i, none⟩ (.int .i64 x)) { s' with tr := up s'.tr i x } := h.cell (arr_tr s' hi x) rfl rfl rfl rfl rfl rfl
theorem TW.all {w w' : World} {t : Nat} {s s' : TS} (h : TW w t s w' s') (x : Int) : TW w t s (w'.setCell ⟨t, 19, none⟩ (.int .i64 x)) { s' with all := x } := h.cell rfl rfl rfl rfl rfl rfl rfl
theorem TW.alloc {w w' : World} {t : Nat} {s s' : TS} (h : TW w t s w' s') (o : Obj) : TW w t s (w'.alloc o) s' := h.below (below_alloc (Below.refl _ _) o)
/-- A tally that has counted a value of a kind. -/
def TS.plus (s : TS) (k : Nat) (d : Int) : TS := { s with all := wrap64 (s.all + d), ks := up s.ks k (wrap64 (s.ks k + d)) }
theorem TRep.ne_g {w : World} {t : Nat} {s : TS} (h : TRep w t s) : t ≠ s.g := fun e => by
  have a := h.tb; have b := h.bb
  rw [← e, a] at b
  have := Obj.cells.inj (Option.some.inj b)
  exact absurd this.2.1 (by decide)
theorem TRep.ne_m {w : World} {t : Nat} {s : TS} (h : TRep w t s) : t ≠ s.m := fun e => by
  have a := h.tb
  obtain ⟨es, cl, b, _⟩ := h.mp
  rw [← e, a] at b
  cases b
theorem TRep.ne_gm {w : World} {t : Nat} {s : TS} (h : TRep w t s) : s.g ≠ s.m := fun e => by
  have a := h.bb
  obtain ⟨es, cl, b, _⟩ := h.mp
  rw [← e, a] at b
  cases b
theorem TRep.nt {w : World} {t : Nat} {s : TS} (h : TRep w t s) : ¬ dom s.H t := fun e => by
  obtain ⟨k, hk⟩ := dom_get e
  have a := h.tb; have c := h.rep t k hk
  unfold KnAt at c
  rw [a] at c
  have := Obj.cells.inj (Option.some.inj c)
  exact absurd this.2.1 (by decide)
theorem TRep.ng {w : World} {t : Nat} {s : TS} (h : TRep w t s) : ¬ dom s.H s.g := fun e => by
  obtain ⟨k, hk⟩ := dom_get e
  have a := h.bb; have c := h.rep s.g k hk
  unfold KnAt at c
  rw [a] at c
  have := Obj.cells.inj (Option.some.inj c)
  exact absurd this.2.1 (by decide)
theorem TRep.nm {w : World} {t : Nat} {s : TS} (h : TRep w t s) : ¬ dom s.H s.m := fun e => by
  obtain ⟨k, hk⟩ := dom_get e
  have c := h.rep s.m k hk
  obtain ⟨es, cl, b, _⟩ := h.mp
  unfold KnAt at c
  rw [b] at c
  cases c
theorem TW.wr {w w1 w2 : World} {t : Nat} {s s1 : TS} {H2 : KH} (h : TW w t s w1 s1) (k : Wr w1 s1.H w2 H2) : TW w t s w2 { s1 with H := H2 } := by
  have keep : ∀ b, domT t s1 b → ¬ Tal.dom s1.H b → w2.heap[b]? = w1.heap[b]? := fun b hb hd => k.chg.block b (h.rep.lt hb) hd
  refine ⟨⟨(keep t (.inl rfl) h.rep.nt).trans h.rep.tb, (keep s1.g (.inr (.inl rfl)) h.rep.ng).trans h.rep.bb, ?_, k.rep⟩, ⟨k.chg.os.trans h.chg.os, k.chg.tape.trans h.chg.tape, k.chg.output.trans h.chg.output, Nat.le_trans h.chg.size k.chg.size, fun i hi hd => ?_⟩, fun b hb => ?_⟩
  · obtain ⟨es, cl, q, r⟩ := h.rep.mp
    exact ⟨es, cl, (keep s1.m (.inr (.inr (.inl rfl))) h.rep.nm).trans q, r⟩
  · refine (k.chg.block i (Nat.lt_of_lt_of_le hi h.chg.size) (fun q => ?_)).trans (h.chg.block i hi hd)
    exact (h.dom i (.inr (.inr (.inr q)))).elim hd (fun q => absurd hi (Nat.not_lt.2 q))
  · rcases hb with e | e | e | e
    · exact h.dom b (.inl e)
    · exact h.dom b (.inr (.inl e))
    · exact h.dom b (.inr (.inr (.inl e)))
    · exact (k.dom b e).elim (fun q => h.dom b (.inr (.inr (.inr q)))) (fun q => .inr (Nat.le_trans h.chg.size q))
theorem TW.root {w w' : World} {t : Nat} {s s' : TS} (h : TW w t s w' s') (p : Option Nat) : TW w t s (w'.setCell ⟨s'.g, 0, none⟩ (.pointer (pa p))) { s' with p := p } := by
  refine ⟨⟨?_, ?_, ?_, ?_⟩, ⟨h.chg.os, h.chg.tape, h.chg.output, by have := h.chg.size; simpa [World.setCell] using this, fun j hj hd => ?_⟩, h.dom⟩
  · rw [blk_set_ne h.rep.ne_g]; exact h.rep.tb
  · exact blk_set_same h.rep.bb _
  · obtain ⟨es, cl, q, r⟩ := h.rep.mp
    exact ⟨es, cl, (blk_set_ne (fun e => h.rep.ne_gm e.symm) _).trans q, r⟩
  · intro b k hb
    unfold KnAt
    rw [blk_set_ne (fun e => h.rep.ng (by rw [← e]; exact dom_of hb))]
    exact h.rep.rep b k hb
  · rw [blk_set_ne (fun e => (h.dom j (.inr (.inl e))).elim hd (fun q => absurd hj (Nat.not_lt.2 q)))]
    exact h.chg.block j hj hd
end Go.Proofs.Ytlglopainaploaa.Tal
