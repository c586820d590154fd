/- Knots in memory: what a heap of knots is, and what is read of it. What a knot knows of those beneath it: count. Turning a knot: its right side, or its left one, goes above it. Making a knot's sides about as great. A thing more in the tree. A tree without its first knot; a thing less in the tree. What is asked of a tree: how often a thing is there, how many are below it, what stands at a place, how high it is. -/
import Derived.Test.YtlglopainaploaaPLx0
import Derived.Outline
import Derived.StillTailTactics
/-! Knots in memory: what a heap of knots is, and what is read of it. -/
namespace Go.Proofs.Ytlglopainaploaa.Tal
open Go.RowKit Go.Proofs.YtlglopainaploaaW.PrintWords Go.Proofs.YtlglopainaploaaW.PrintLast Go.Proofs.YtlglopainaploaaW.PrintMore
set_option linter.unusedVariables false
set_option linter.unusedSimpArgs false

/-- A knot, its sides by their blocks. -/
structure Kn where
  x : Int
  often : Int
  l : Option Nat
  r : Option Nat
  all : Int
  many : Int
def pa : Option Nat → Option Addr
  | none => none
  | some b => some ⟨b, 0, none⟩
def Kn.arr (k : Kn) : Array Value := #[.int .i64 k.x, .int .i64 k.often, .pointer (pa k.l), .pointer (pa k.r), .int .i64 k.all, .int .i64 k.many]
/-- A block that holds a knot. -/
def KnAt (w : World) (b : Nat) (k : Kn) : Prop := w.heap[b]? = some (.cells k.arr 102)
abbrev KH := Nat → Option Kn
def KH.put (H : KH) (b : Nat) (k : Kn) : KH := fun c => if c = b then some k else H c
def Rep (w : World) (H : KH) : Prop := ∀ b k, H b = some k → KnAt w b k

/-- Blocks outside D are as they were. -/
structure Chg (D : Nat → Prop) (w w' : World) : Prop where
  os : w'.os = w.os
  tape : w'.tape = w.tape
  output : w'.output = w.output
  size : w.heap.size ≤ w'.heap.size
  block : ∀ k, k < w.heap.size → ¬ D k → w'.heap[k]? = w.heap[k]?
theorem Chg.refl (D : Nat → Prop) (w : World) : Chg D w w := ⟨rfl, rfl, rfl, Nat.le_refl _, fun _ _ _ => rfl⟩
theorem Chg.trans {D : Nat → Prop} {a b c : World} (h : Chg D a b) (k : Chg D b c) : Chg D a c :=
  ⟨k.os.trans h.os, k.tape.trans h.tape, k.output.trans h.output, Nat.le_trans h.size k.size, fun i hi hd => (k.block i (Nat.lt_of_lt_of_le hi h.size) hd).trans (h.block i hi hd)⟩
theorem Chg.mono {D E : Nat → Prop} {a b : World} (h : Chg D a b) (hd : ∀ k, k < a.heap.size → D k → E k) : Chg E a b :=
  ⟨h.os, h.tape, h.output, h.size, fun i hi he => h.block i hi (fun q => he (hd i hi q))⟩
theorem Chg.below {D : Nat → Prop} {a b : World} (h : Chg D a b) {n : Nat} (hn : n ≤ a.heap.size) (hd : ∀ k, k < n → ¬ D k) : Below n a b :=
  ⟨h.os, h.tape, h.output, h.size, fun i hi => h.block i (Nat.lt_of_lt_of_le hi hn) (hd i hi)⟩
theorem Chg.drewN {D : Nat → Prop} {a b : World} (h : Chg D a b) (n : Nat) : Chg D a (b.drewN n) := ⟨h.os, h.tape, h.output, h.size, h.block⟩
theorem Chg.drew {D : Nat → Prop} {a b : World} (h : Chg D a b) : Chg D a b.drew := ⟨h.os, h.tape, h.output, h.size, h.block⟩
theorem Chg.setCell {D : Nat → Prop} {a b : World} (h : Chg D a b) {p : Addr} (hp : D p.block) (u : Value) : Chg D a (b.setCell p u) :=
  ⟨h.os, h.tape, h.output, by simpa [World.setCell] using h.size, fun i hi hd => by rw [Below.heap_setCell _ _ _ _ (fun e => hd (by rw [e]; exact hp))]; exact h.block i hi hd⟩
theorem Chg.alloc {D : Nat → Prop} {a b : World} (h : Chg D a b) (o : Obj) : Chg D a (b.alloc o) :=
  ⟨h.os, h.tape, h.output, by have := h.size; simp; omega, fun i hi hd => by rw [Below.heap_alloc _ _ _ (Nat.lt_of_lt_of_le hi h.size)]; exact h.block i hi hd⟩

theorem blk_set_same {w : World} {b i : Nat} {arr : Array Value} {t : TypeId} {f : Nat × Nat} (h : w.heap[b]? = some (.cells arr t f)) (v : Value) : (w.setCell ⟨b, i, none⟩ v).heap[b]? = some (.cells (arr.setIfInBounds i v) t f) := by
  simp [World.setCell, Array.getElem?_modify, h]
theorem blk_set_ne {w : World} {b c i : Nat} (h : c ≠ b) (v : Value) : (w.setCell ⟨b, i, none⟩ v).heap[c]? = w.heap[c]? := Below.heap_setCell _ _ _ _ h

theorem KnAt.cells {w : World} {b : Nat} {k : Kn} (h : KnAt w b k) : w.cell? ⟨b, 0, none⟩ = some (.int .i64 k.x) ∧ w.cell? ⟨b, 1, none⟩ = some (.int .i64 k.often) ∧ w.cell? ⟨b, 2, none⟩ = some (.pointer (pa k.l)) ∧ w.cell? ⟨b, 3, none⟩ = some (.pointer (pa k.r)) ∧ w.cell? ⟨b, 4, none⟩ = some (.int .i64 k.all) ∧ w.cell? ⟨b, 5, none⟩ = some (.int .i64 k.many) := by
  unfold KnAt at h
  refine ⟨?_, ?_, ?_, ?_, ?_, ?_⟩ <;> simp [World.cell?, h, Kn.arr]
theorem KnAt.free {w : World} {b : Nat} {k : Kn} (h : KnAt w b k) (i : Nat) : w.frozen? ⟨b, i, none⟩ = false := by
  unfold KnAt at h
  simp [World.frozen?, h]
theorem KnAt.lt {w : World} {b : Nat} {k : Kn} (h : KnAt w b k) : b < w.heap.size := by
  unfold KnAt at h
  exact (Array.getElem?_eq_some_iff.1 h).1
theorem Rep.drewN {w : World} {H : KH} (h : Rep w H) (n : Nat) : Rep (w.drewN n) H := h
theorem Rep.put {w w' : World} {H : KH} {b : Nat} {k : Kn} (h : Rep w H) (hb : KnAt w' b k) (ho : ∀ c, c ≠ b → c < w.heap.size → w'.heap[c]? = w.heap[c]?) : Rep w' (H.put b k) := by
  intro c q hc
  unfold KH.put at hc
  by_cases e : c = b
  · rw [if_pos e] at hc
    cases hc
    rw [e]; exact hb
  · rw [if_neg e] at hc
    have := h c q hc
    exact (ho c e this.lt).trans this
theorem Rep.chg {w w' : World} {H : KH} {D : Nat → Prop} (h : Rep w H) (c : Chg D w w') (hd : ∀ b k, H b = some k → ¬ D b) : Rep w' H := fun b k hb => (c.block b (h b k hb).lt (hd b k hb)).trans (h b k hb)

def dom (H : KH) (b : Nat) : Prop := (H b).isSome = true
theorem dom_of {H : KH} {b : Nat} {k : Kn} (h : H b = some k) : dom H b := by unfold dom; rw [h]; rfl
theorem dom_get {H : KH} {b : Nat} (h : dom H b) : ∃ k, H b = some k := Option.isSome_iff_exists.1 h
theorem put_same (H : KH) (b : Nat) (k : Kn) : H.put b k b = some k := if_pos rfl
theorem put_ne (H : KH) {b c : Nat} (k : Kn) (h : c ≠ b) : H.put b k c = H c := if_neg h
theorem dom_put {H : KH} {b c : Nat} {k : Kn} (h : dom (H.put b k) c) : c = b ∨ dom H c := by
  by_cases e : c = b
  · exact .inl e
  · right
    unfold dom at h ⊢
    rwa [put_ne H k e] at h
/-- What a call does with a heap of knots. -/
structure Wr (w : World) (H : KH) (w' : World) (H' : KH) : Prop where
  rep : Rep w' H'
  chg : Chg (dom H) w w'
  dom : ∀ b, dom H' b → dom H b ∨ w.heap.size ≤ b
theorem Wr.refl {w : World} {H : KH} (h : Rep w H) : Wr w H w H := ⟨h, Chg.refl _ _, fun _ h => .inl h⟩
theorem Wr.drew {w w' : World} {H H' : KH} (h : Wr w H w' H') : Wr w H w'.drew H' := ⟨h.rep, h.chg.drew, h.dom⟩
theorem Wr.drewN {w w' : World} {H H' : KH} (h : Wr w H w' H') (n : Nat) : Wr w H (w'.drewN n) H' := ⟨h.rep, h.chg.drewN n, h.dom⟩
theorem Wr.trans {w w1 w2 : World} {H H1 H2 : KH} (h : Wr w H w1 H1) (k : Wr w1 H1 w2 H2) : Wr w H w2 H2 :=
  ⟨k.rep, ⟨k.chg.os.trans h.chg.os, k.chg.tape.trans h.chg.tape, k.chg.output.trans h.chg.output, Nat.le_trans h.chg.size k.chg.size, fun i hi hd =>
    (k.chg.block i (Nat.lt_of_lt_of_le hi h.chg.size) (fun q => (h.dom i q).elim hd (fun q => absurd hi (Nat.not_lt.2 q)))).trans (h.chg.block i hi hd)⟩,
   fun b hb => (k.dom b hb).elim (h.dom b) (fun q => .inr (Nat.le_trans h.chg.size q))⟩
theorem Wr.set {w w' : World} {H H' : KH} (h : Wr w H w' H') {b i : Nat} {k k' : Kn} {v : Value} (hb : H' b = some k) (he : k'.arr = k.arr.setIfInBounds i v) : Wr w H (w'.setCell ⟨b, i, none⟩ v) (H'.put b k') := by
  refine ⟨h.rep.put (by unfold KnAt; rw [blk_set_same (h.rep b k hb), he]) (fun c hc _ => blk_set_ne hc _), ⟨h.chg.os, h.chg.tape, h.chg.output, by have := h.chg.size; simpa [World.setCell] using this, fun j hj hd => ?_⟩, fun c hc => ?_⟩
  · rw [blk_set_ne (fun e => ?_)]
    · exact h.chg.block j hj hd
    · subst e
      exact (h.dom j (dom_of hb)).elim hd (fun q => absurd hj (Nat.not_lt.2 q))
  · rcases dom_put hc with rfl | q
    · exact h.dom c (dom_of hb)
    · exact h.dom c q
theorem blk_alloc_new (w : World) (o : Obj) : (w.alloc o).heap[w.heap.size]? = some o := by
  show (w.heap.push o)[w.heap.size]? = _
  simp
theorem Wr.new {w w' : World} {H H' : KH} (h : Wr w H w' H') (k : Kn) : Wr w H (w'.alloc (.cells k.arr 102)) (H'.put w'.heap.size k) := by
  refine ⟨h.rep.put (blk_alloc_new _ _) (fun c hc hl => Below.heap_alloc _ _ _ hl), h.chg.alloc _, fun c hc => ?_⟩
  rcases dom_put hc with rfl | q
  · exact .inr h.chg.size
  · exact h.dom c q
theorem Wr.cast {w w' : World} {H H' H2 : KH} (h : Wr w H w' H') (e : H' = H2) : Wr w H w' H2 := e ▸ h

/-! What a knot's total, size tell. -/
def totalH (H : KH) : Option Nat → Option Int
  | none => some 0
  | some b => (H b).map Kn.all
def sizeH (H : KH) : Option Nat → Option Int
  | none => some 0
  | some b => (H b).map Kn.many
set_option maxHeartbeats 1600000 in
set_option maxRecDepth 100000 in
theorem total_calls {H : KH} {p : Option Nat} {t : Int} {w : World} (h : totalH H p = some t) (hr : Rep w H) :
    Calls Try.prog 83 #[.pointer (pa p)] w fun e w' => e = .returned (.int .i64 t) ∧ w' = w := by
  cases p with
  | none =>
    simp only [totalH, Option.some.injEq] at h
    subst h
    show Calls Try.prog 83 #[.pointer none] w _
    go_enter Try.func83, Try.ntmps83
    go_wp2
    go_ret
    exact ⟨rfl, rfl⟩
  | some b =>
    simp only [totalH] at h
    obtain ⟨k, hk, rfl⟩ := Option.map_eq_some_iff.1 h
    obtain ⟨c0, c1, c2, c3, c4, c5⟩ := (hr b k hk).cells
    clear h hk hr
    show Calls Try.prog 83 #[.pointer (some ⟨b, 0, none⟩)] w _
    go_enter Try.func83, Try.ntmps83
    go_wp2
    go_ret
    exact ⟨rfl, rfl⟩
set_option maxHeartbeats 1600000 in
set_option maxRecDepth 100000 in
theorem size_calls {H : KH} {p : Option Nat} {t : Int} {w : World} (h : sizeH H p = some t) (hr : Rep w H) :
    Calls Try.prog 107 #[.pointer (pa p)] w fun e w' => e = .returned (.int .i64 t) ∧ w' = w := by
  cases p with
  | none =>
    simp only [sizeH, Option.some.injEq] at h
    subst h
    show Calls Try.prog 107 #[.pointer none] w _
    go_enter Try.func107, Try.ntmps107
    go_wp2
    go_ret
    exact ⟨rfl, rfl⟩
  | some b =>
    simp only [sizeH] at h
    obtain ⟨k, hk, rfl⟩ := Option.map_eq_some_iff.1 h
    obtain ⟨c0, c1, c2, c3, c4, c5⟩ := (hr b k hk).cells
    clear h hk hr
    show Calls Try.prog 107 #[.pointer (some ⟨b, 0, none⟩)] w _
    go_enter Try.func107, Try.ntmps107
    go_wp2
    go_ret
    exact ⟨rfl, rfl⟩
end Go.Proofs.Ytlglopainaploaa.Tal
/-! What a knot knows of those beneath it: count. -/
namespace Go.Proofs.Ytlglopainaploaa.Tal
open Go.RowKit Go.Proofs.YtlglopainaploaaW.PrintWords Go.Proofs.YtlglopainaploaaW.PrintLast Go.Proofs.YtlglopainaploaaW.PrintMore
set_option linter.unusedVariables false
set_option linter.unusedSimpArgs false

def countK (H : KH) (k : Kn) : Option Kn := (totalH H k.l).bind fun a => (totalH H k.r).bind fun c => (sizeH H k.l).bind fun d => (sizeH H k.r).bind fun e =>
  some { k with all := wrap64 (wrap64 (k.often + a) + c), many := wrap64 (wrap64 (1 + d) + e) }
theorem sizeH_put {H : KH} {b : Nat} {k k1 : Kn} (h : H b = some k) (e : k1.many = k.many) : ∀ p, sizeH (H.put b k1) p = sizeH H p
  | none => rfl
  | some c => by
    show Option.map Kn.many (if c = b then some k1 else H c) = Option.map Kn.many (H c)
    by_cases q : c = b
    · rw [if_pos q, q, h]; simp [e]
    · rw [if_neg q]
theorem totalH_put {H : KH} {b : Nat} {k k1 : Kn} (h : H b = some k) (e : k1.all = k.all) : ∀ p, totalH (H.put b k1) p = totalH H p
  | none => rfl
  | some c => by
    show Option.map Kn.all (if c = b then some k1 else H c) = Option.map Kn.all (H c)
    by_cases q : c = b
    · rw [if_pos q, q, h]; simp [e]
    · rw [if_neg q]
theorem KH.put_put (H : KH) (b : Nat) (k k1 : Kn) : (H.put b k).put b k1 = H.put b k1 := by
  funext c
  unfold KH.put
  by_cases q : c = b
  · rw [if_pos q, if_pos q]
  · rw [if_neg q, if_neg q, if_neg q]
set_option maxHeartbeats 1600000 in
set_option maxRecDepth 100000 in
theorem count_calls {H : KH} {b : Nat} {k k' : Kn} {w : World} (hk : H b = some k) (h : countK H k = some k') (hr : Rep w H) :
    Calls Try.prog 86 #[.pointer (some ⟨b, 0, none⟩)] w fun e w' => e = .returned (.pointer (some ⟨b, 0, none⟩)) ∧ Wr w H w' (H.put b k') := by
  replace h := Option.bind_eq_some_iff.1 h
  obtain ⟨a, ha, h⟩ := h
  replace h := Option.bind_eq_some_iff.1 h
  obtain ⟨c, hc, h⟩ := h
  replace h := Option.bind_eq_some_iff.1 h
  obtain ⟨d, hd, h⟩ := h
  replace h := Option.bind_eq_some_iff.1 h
  obtain ⟨e, he, h⟩ := h
  replace h := Option.some.inj h
  subst h
  obtain ⟨c0, c1, c2, c3, c4, c5⟩ := (hr b k hk).cells
  have f4 := (hr b k hk).free 4
  have f5 := (hr b k hk).free 5
  have HK := Aside0.mk hk
  have HA := Aside0.mk ha
  have HC := Aside0.mk hc
  have HD := Aside0.mk hd
  have HE := Aside0.mk he
  have HR := Aside0.mk hr
  clear hk hr ha hc hd he
  go_enter Try.func86, Try.ntmps86
  go_wp2_with fail
  go_still_tail 17, (by kernel_rfl)
  still_call (total_calls HA.out HR.out)
  repeat still_step
  still_call (total_calls HC.out HR.out)
  repeat still_step
  refine wpStill_nil ?_
  go_wp2_with fail
  have g1 := ((Wr.refl HR.out).set (b := b) (i := 4) (k' := { k with all := wrap64 (wrap64 (k.often + a) + c) }) (v := .int .i64 (wrap64 (wrap64 (k.often + a) + c))) HK.out rfl).drew
  generalize (w.setCell ⟨b, 4, none⟩ (.int .i64 (wrap64 (wrap64 (k.often + a) + c)))).drew = w1 at *
  have HD1 : Aside0 (sizeH (H.put b { k with all := wrap64 (wrap64 (k.often + a) + c) }) k.l = some d) := ⟨(sizeH_put (k1 := { k with all := wrap64 (wrap64 (k.often + a) + c) }) HK.out rfl _).trans HD.out⟩
  have HE1 : Aside0 (sizeH (H.put b { k with all := wrap64 (wrap64 (k.often + a) + c) }) k.r = some e) := ⟨(sizeH_put (k1 := { k with all := wrap64 (wrap64 (k.often + a) + c) }) HK.out rfl _).trans HE.out⟩
  have HG1 := Aside0.mk g1
  have k1 := g1.rep b _ (put_same _ _ _)
  clear c0 c1 c2 c3 c4 c5 f4 f5
  obtain ⟨c0, c1, c2, c3, c4, c5⟩ := k1.cells
  have f5 := k1.free 5
  dsimp only at c0 c1 c2 c3 c4 c5
  clear k1 g1 HA HC HD HE
  go_still_tail 13, (by kernel_rfl)
  still_call (size_calls HD1.out HG1.out.rep)
  repeat still_step
  still_call (size_calls HE1.out HG1.out.rep)
  repeat still_step
  refine wpStill_nil ?_
  go_wp2
  go_ret
  exact ⟨rfl, (HG1.out.drew.set (b := b) (i := 5) (k' := { k with all := wrap64 (wrap64 (k.often + a) + c), many := wrap64 (wrap64 (1 + d) + e) }) (put_same _ _ _) rfl).cast (KH.put_put _ _ _ _)⟩
end Go.Proofs.Ytlglopainaploaa.Tal
/-! Turning a knot: its right side, or its left one, goes above it. -/
namespace Go.Proofs.Ytlglopainaploaa.Tal
open Go.RowKit Go.Proofs.YtlglopainaploaaW.PrintWords Go.Proofs.YtlglopainaploaaW.PrintLast Go.Proofs.YtlglopainaploaaW.PrintMore
set_option linter.unusedVariables false
set_option linter.unusedSimpArgs false

def turnR (H : KH) (b : Nat) : Option (Nat × KH) := (H b).bind fun k => k.r.bind fun u => (H u).bind fun q => if u = b then none else
  (countK ((H.put b { k with r := q.l }).put u { q with l := some b }) { k with r := q.l }).bind fun k1 =>
  (countK (((H.put b { k with r := q.l }).put u { q with l := some b }).put b k1) { q with l := some b }).bind fun q1 => some (u, (((H.put b { k with r := q.l }).put u { q with l := some b }).put b k1).put u q1)
def turnL (H : KH) (b : Nat) : Option (Nat × KH) := (H b).bind fun k => k.l.bind fun u => (H u).bind fun q => if u = b then none else
  (countK ((H.put b { k with l := q.r }).put u { q with r := some b }) { k with l := q.r }).bind fun k1 =>
  (countK (((H.put b { k with l := q.r }).put u { q with r := some b }).put b k1) { q with r := some b }).bind fun q1 => some (u, (((H.put b { k with l := q.r }).put u { q with r := some b }).put b k1).put u q1)
set_option maxHeartbeats 1600000 in
set_option maxRecDepth 100000 in
theorem turnR_calls {H H' : KH} {b u : Nat} {w : World} (h : turnR H b = some (u, H')) (hr : Rep w H) :
    Calls Try.prog 109 #[.pointer (some ⟨b, 0, none⟩), .bool true] w fun e w' => e = .returned (.pointer (some ⟨u, 0, none⟩)) ∧ Wr w H w' H' := by
  replace h := Option.bind_eq_some_iff.1 h
  obtain ⟨k, hk, h⟩ := h
  replace h := Option.bind_eq_some_iff.1 h
  obtain ⟨u', hu, h⟩ := h
  replace h := Option.bind_eq_some_iff.1 h
  obtain ⟨q, hq, h⟩ := h
  by_cases ne : u' = b
  · rw [if_pos ne] at h; cases h
  rw [if_neg ne] at h
  replace h := Option.bind_eq_some_iff.1 h
  obtain ⟨k1, hk1, h⟩ := h
  replace h := Option.bind_eq_some_iff.1 h
  obtain ⟨q1, hq1, h⟩ := h
  replace h := Prod.mk.inj (Option.some.inj h)
  obtain ⟨rfl, rfl⟩ := h
  have ne' : ¬ b = u' := fun e => ne e.symm
  obtain ⟨c0, c1, c2, c3, c4, c5⟩ := (hr b k hk).cells
  rw [hu] at c3
  replace c3 : w.cell? ⟨b, 3, none⟩ = some (.pointer (some ⟨u', 0, none⟩)) := c3
  obtain ⟨d0, d1, d2, d3, d4, d5⟩ := (hr u' q hq).cells
  have f3 := (hr b k hk).free 3
  have f2 := (hr u' q hq).free 2
  have HR := Aside0.mk ((((Wr.refl hr).set (b := b) (i := 3) (k' := { k with r := q.l }) (v := .pointer (pa q.l)) hk rfl).set (b := u') (i := 2) (k := q) (k' := { q with l := some b }) (v := .pointer (some ⟨b, 0, none⟩)) (by rw [put_ne _ _ ne]; exact hq) rfl))
  have e1 : ((H.put b { k with r := q.l }).put u' { q with l := some b }) b = some { k with r := q.l } := by rw [put_ne _ _ ne', put_same]
  have e2 : ((H.put b { k with r := q.l }).put u' { q with l := some b }).put b k1 u' = some { q with l := some b } := by rw [put_ne _ _ ne, put_same]
  have E1 := Aside0.mk e1
  have E2 := Aside0.mk e2
  have HK := Aside0.mk hk1
  have HQ := Aside0.mk hq1
  clear hr hk hu hq hk1 hq1 e1 e2
  generalize (H.put b { k with r := q.l }).put u' { q with l := some b } = H1 at *
  go_enter Try.func109, Try.ntmps109
  go_wp2_with fail
  refine (count_calls E1.out HK.out HR.out.rep).mono ?_
  rintro e w1 ⟨rfl, g1⟩
  have HG := Aside0.mk (HR.out.trans g1)
  clear g1 c0 c1 c2 c3 c4 c5 d0 d1 d2 d3 d4 d5 f2 f3
  go_wp2_with fail
  refine (count_calls E2.out HQ.out HG.out.rep).mono ?_
  rintro e w2 ⟨rfl, g2⟩
  have HG2 := Aside0.mk (HG.out.trans g2)
  clear g2
  go_wp2
  go_ret
  exact ⟨rfl, HG2.out⟩
set_option maxHeartbeats 1600000 in
set_option maxRecDepth 100000 in
theorem turnL_calls {H H' : KH} {b u : Nat} {w : World} (h : turnL H b = some (u, H')) (hr : Rep w H) :
    Calls Try.prog 109 #[.pointer (some ⟨b, 0, none⟩), .bool false] w fun e w' => e = .returned (.pointer (some ⟨u, 0, none⟩)) ∧ Wr w H w' H' := by
  replace h := Option.bind_eq_some_iff.1 h
  obtain ⟨k, hk, h⟩ := h
  replace h := Option.bind_eq_some_iff.1 h
  obtain ⟨u', hu, h⟩ := h
  replace h := Option.bind_eq_some_iff.1 h
  obtain ⟨q, hq, h⟩ := h
  by_cases ne : u' = b
  · rw [if_pos ne] at h; cases h
  rw [if_neg ne] at h
  replace h := Option.bind_eq_some_iff.1 h
  obtain ⟨k1, hk1, h⟩ := h
  replace h := Option.bind_eq_some_iff.1 h
  obtain ⟨q1, hq1, h⟩ := h
  replace h := Prod.mk.inj (Option.some.inj h)
  obtain ⟨rfl, rfl⟩ := h
  have ne' : ¬ b = u' := fun e => ne e.symm
  obtain ⟨c0, c1, c2, c3, c4, c5⟩ := (hr b k hk).cells
  rw [hu] at c2
  replace c2 : w.cell? ⟨b, 2, none⟩ = some (.pointer (some ⟨u', 0, none⟩)) := c2
  obtain ⟨d0, d1, d2, d3, d4, d5⟩ := (hr u' q hq).cells
  have f3 := (hr b k hk).free 2
  have f2 := (hr u' q hq).free 3
  have HR := Aside0.mk ((((Wr.refl hr).set (b := b) (i := 2) (k' := { k with l := q.r }) (v := .pointer (pa q.r)) hk rfl).set (b := u') (i := 3) (k := q) (k' := { q with r := some b }) (v := .pointer (some ⟨b, 0, none⟩)) (by rw [put_ne _ _ ne]; exact hq) rfl))
  have e1 : ((H.put b { k with l := q.r }).put u' { q with r := some b }) b = some { k with l := q.r } := by rw [put_ne _ _ ne', put_same]
  have e2 : ((H.put b { k with l := q.r }).put u' { q with r := some b }).put b k1 u' = some { q with r := some b } := by rw [put_ne _ _ ne, put_same]
  have E1 := Aside0.mk e1
  have E2 := Aside0.mk e2
  have HK := Aside0.mk hk1
  have HQ := Aside0.mk hq1
  clear hr hk hu hq hk1 hq1 e1 e2
  generalize (H.put b { k with l := q.r }).put u' { q with r := some b } = H1 at *
  go_enter Try.func109, Try.ntmps109
  go_wp2_with fail
  refine (count_calls E1.out HK.out HR.out.rep).mono ?_
  rintro e w1 ⟨rfl, g1⟩
  have HG := Aside0.mk (HR.out.trans g1)
  clear g1 c0 c1 c2 c3 c4 c5 d0 d1 d2 d3 d4 d5 f2 f3
  go_wp2_with fail
  refine (count_calls E2.out HQ.out HG.out.rep).mono ?_
  rintro e w2 ⟨rfl, g2⟩
  have HG2 := Aside0.mk (HG.out.trans g2)
  clear g2
  go_wp2
  go_ret
  exact ⟨rfl, HG2.out⟩
end Go.Proofs.Ytlglopainaploaa.Tal
/-! Making a knot's sides about as great. -/
namespace Go.Proofs.Ytlglopainaploaa.Tal
open Go.RowKit Go.Proofs.YtlglopainaploaaW.PrintWords Go.Proofs.YtlglopainaploaaW.PrintLast Go.Proofs.YtlglopainaploaaW.PrintMore
set_option linter.unusedVariables false
set_option linter.unusedSimpArgs false

theorem quiet_more {P : Program} {f : FuncId} {args : Array Value} {w : World} {k n : Nat} {v : Value} (h : Calls P f args (w.drewN (k + n)) fun e w' => e = .returned v ∧ w' = w.drewN (k + n)) :
    Calls P f args (w.drewN (k + n)) fun e w'' => e = .returned v ∧ ∃ m, w'' = w.drewN (k + m) := h.mono fun _ _ ⟨he, hm⟩ => ⟨he, n, hm⟩
theorem size_at {H : KH} {b : Nat} {t : Int} {w : World} (h : sizeH H (some b) = some t) (hr : Rep w H) :
    Calls Try.prog 107 #[.pointer (some ⟨b, 0, none⟩)] w fun e w' => e = .returned (.int .i64 t) ∧ w' = w := size_calls (p := some b) h hr
def hvy (a c : Int) : Bool := decide (wrap64 (3 * wrap64 (c + 1)) < wrap64 (a + 1))
set_option maxHeartbeats 1600000 in
set_option maxRecDepth 100000 in
theorem heavy_calls {a c : Int} {t : Bool} (w : World) (h : hvy a c = t) :
    Calls Try.prog 108 #[.int .i64 a, .int .i64 c] w fun e w' => e = .returned (.bool t) ∧ w' = w := by
  subst h
  go_enter Try.func108, Try.ntmps108
  go_wp2
  go_ret
  exact ⟨rfl, rfl⟩
def dbl (a c : Int) : Bool := decide (wrap64 (2 * wrap64 (c + 1)) ≤ wrap64 (a + 1))
def balR (H : KH) (b : Nat) (k : Kn) : Option (Nat × KH) := k.r.bind fun u => (H u).bind fun q => (sizeH H q.l).bind fun a => (sizeH H q.r).bind fun c =>
  if dbl a c = true then (turnL H u).bind fun v => (v.2 b).bind fun kb => turnR (v.2.put b { kb with r := some v.1 }) b else turnR H b
def balL (H : KH) (b : Nat) (k : Kn) : Option (Nat × KH) := k.l.bind fun u => (H u).bind fun q => (sizeH H q.r).bind fun a => (sizeH H q.l).bind fun c =>
  if dbl a c = true then (turnR H u).bind fun v => (v.2 b).bind fun kb => turnL (v.2.put b { kb with l := some v.1 }) b else turnL H b
def balH (H : KH) (b : Nat) : Option (Nat × KH) := (H b).bind fun k => (sizeH H k.r).bind fun sr => (sizeH H k.l).bind fun sl =>
  if hvy sr sl = true then balR H b k else if hvy sl sr = true then balL H b k else (countK H k).bind fun k' => some (b, H.put b k')
set_option maxHeartbeats 1600000 in
set_option maxRecDepth 100000 in
theorem balR_calls {H H' : KH} {b u : Nat} {w : World} {k : Kn} {sr sl : Int} (hr : Rep w H) (hk : H b = some k) (hsr : sizeH H k.r = some sr) (hsl : sizeH H k.l = some sl) (t1 : hvy sr sl = true) (h : balR H b k = some (u, H')) :
    Calls Try.prog 87 #[.pointer (some ⟨b, 0, none⟩)] w fun e w' => e = .returned (.pointer (some ⟨u, 0, none⟩)) ∧ Wr w H w' H' := by
  obtain ⟨c0, c1, c2, c3, c4, c5⟩ := (hr b k hk).cells
  have HR := Aside0.mk hr
  have HO := Aside0.mk hsl
  have HK := Aside0.mk hk
  replace h := Option.bind_eq_some_iff.1 h
  obtain ⟨v, hv, h⟩ := h
  replace h := Option.bind_eq_some_iff.1 h
  obtain ⟨q, hq, h⟩ := h
  replace h := Option.bind_eq_some_iff.1 h
  obtain ⟨a, ha, h⟩ := h
  replace h := Option.bind_eq_some_iff.1 h
  obtain ⟨c, hc, h⟩ := h
  obtain ⟨d0, d1, d2, d3, d4, d5⟩ := (hr v q hq).cells
  have f3 := (hr b k hk).free 3
  have HA := Aside0.mk ha
  have HC := Aside0.mk hc
  have HQ := Aside0.mk hq
  have HV := Aside0.mk hv
  have c3' : w.cell? ⟨b, 3, none⟩ = some (.pointer (some ⟨v, 0, none⟩)) := by rw [c3, hv]; rfl
  have T1H := Aside0.mk t1
  clear t1
  have HSV : Aside0 (sizeH H (some v) = some sr) := ⟨hv ▸ hsr⟩
  clear hr hsr hsl hk hq ha hc hv c3
  have c3 := c3'
  clear c3'
  by_cases t2 : dbl a c = true
  · rw [if_pos t2] at h
    replace h := Option.bind_eq_some_iff.1 h
    obtain ⟨v1, hv1, h⟩ := h
    replace h := Option.bind_eq_some_iff.1 h
    obtain ⟨kb, hkb, h⟩ := h
    have T2H := Aside0.mk t2
    clear t2
    have T1 := Aside0.mk hv1
    have T2 := Aside0.mk hkb
    have T3 := Aside0.mk h
    clear h hv1 hkb
    go_enter Try.func87, Try.ntmps87
    go_wp2_with fail
    go_quiet (first | (go_at_call 107; with_reducible refine Calls.quiet_of_same (size_at HSV.out (HR.out.drewN _))) | (go_at_call 107; with_reducible refine Calls.quiet_of_same (size_calls HO.out (HR.out.drewN _))) | (go_at_call 108; with_reducible refine Calls.quiet_of_same (heavy_calls _ T1H.out)))
    go_wp2_with fail
    go_quiet (first | (go_at_call 107; with_reducible refine quiet_more (size_calls HA.out (HR.out.drewN _))) | (go_at_call 107; with_reducible refine quiet_more (size_calls HC.out (HR.out.drewN _))))
    rw [show decide (wrap64 (2 * wrap64 (c + 1)) ≤ wrap64 (a + 1)) = true from T2H.out]
    go_wp2_with fail
    with_reducible refine (turnL_calls T1.out (HR.out.drewN _)).mono ?_
    rintro e w1 ⟨rfl, g1⟩
    have G1 := Aside0.mk (((Wr.refl HR.out).drewN _).trans g1)
    have e3 := ((G1.out.rep b kb T2.out).cells).2.2.2.1
    have f3' := (G1.out.rep b kb T2.out).free 3
    clear g1 c0 c1 c2 c3 c4 c5 d0 d1 d2 d3 d4 d5 f3
    have G2 := Aside0.mk (Wr.set G1.out (b := b) (i := 3) (k' := { kb with r := some v1.1 }) (v := .pointer (some ⟨v1.1, 0, none⟩)) T2.out rfl)
    go_wp2_with fail
    with_reducible refine (turnR_calls T3.out G2.out.rep).mono ?_
    rintro e w2 ⟨rfl, g2⟩
    have G3 := Aside0.mk (G2.out.trans g2)
    clear g2 e3 f3'
    go_wp2
    go_ret
    exact ⟨rfl, G3.out⟩
  · rw [if_neg t2] at h
    have T2H := Aside0.mk (Bool.eq_false_iff.2 t2)
    clear t2
    have T3 := Aside0.mk h
    clear h
    go_enter Try.func87, Try.ntmps87
    go_wp2_with fail
    go_quiet (first | (go_at_call 107; with_reducible refine Calls.quiet_of_same (size_at HSV.out (HR.out.drewN _))) | (go_at_call 107; with_reducible refine Calls.quiet_of_same (size_calls HO.out (HR.out.drewN _))) | (go_at_call 108; with_reducible refine Calls.quiet_of_same (heavy_calls _ T1H.out)))
    go_wp2_with fail
    go_quiet (first | (go_at_call 107; with_reducible refine quiet_more (size_calls HA.out (HR.out.drewN _))) | (go_at_call 107; with_reducible refine quiet_more (size_calls HC.out (HR.out.drewN _))))
    rw [show decide (wrap64 (2 * wrap64 (c + 1)) ≤ wrap64 (a + 1)) = false from T2H.out]
    go_wp2_with fail
    with_reducible refine (turnR_calls T3.out (HR.out.drewN _)).mono ?_
    rintro e w1 ⟨rfl, g1⟩
    have G1 := Aside0.mk (((Wr.refl HR.out).drewN _).trans g1)
    clear g1 c0 c1 c2 c3 c4 c5 d0 d1 d2 d3 d4 d5 f3
    go_wp2
    go_ret
    exact ⟨rfl, G1.out⟩
set_option maxHeartbeats 1600000 in
set_option maxRecDepth 100000 in
theorem balL_calls {H H' : KH} {b u : Nat} {w : World} {k : Kn} {sr sl : Int} (hr : Rep w H) (hk : H b = some k) (hsr : sizeH H k.r = some sr) (hsl : sizeH H k.l = some sl) (t0 : hvy sr sl = false) (t1 : hvy sl sr = true) (h : balL H b k = some (u, H')) :
    Calls Try.prog 87 #[.pointer (some ⟨b, 0, none⟩)] w fun e w' => e = .returned (.pointer (some ⟨u, 0, none⟩)) ∧ Wr w H w' H' := by
  obtain ⟨c0, c1, c2, c3, c4, c5⟩ := (hr b k hk).cells
  have HR := Aside0.mk hr
  have HO := Aside0.mk hsr
  have HK := Aside0.mk hk
  replace h := Option.bind_eq_some_iff.1 h
  obtain ⟨v, hv, h⟩ := h
  replace h := Option.bind_eq_some_iff.1 h
  obtain ⟨q, hq, h⟩ := h
  replace h := Option.bind_eq_some_iff.1 h
  obtain ⟨a, ha, h⟩ := h
  replace h := Option.bind_eq_some_iff.1 h
  obtain ⟨c, hc, h⟩ := h
  obtain ⟨d0, d1, d2, d3, d4, d5⟩ := (hr v q hq).cells
  have f3 := (hr b k hk).free 2
  have HA := Aside0.mk ha
  have HC := Aside0.mk hc
  have HQ := Aside0.mk hq
  have HV := Aside0.mk hv
  have c3' : w.cell? ⟨b, 2, none⟩ = some (.pointer (some ⟨v, 0, none⟩)) := by rw [c2, hv]; rfl
  have T1H := Aside0.mk t1
  have T0H := Aside0.mk t0
  clear t0
  clear t1
  have HSV : Aside0 (sizeH H (some v) = some sl) := ⟨hv ▸ hsl⟩
  clear hr hsr hsl hk hq ha hc hv c2
  have c2 := c3'
  clear c3'
  by_cases t2 : dbl a c = true
  · rw [if_pos t2] at h
    replace h := Option.bind_eq_some_iff.1 h
    obtain ⟨v1, hv1, h⟩ := h
    replace h := Option.bind_eq_some_iff.1 h
    obtain ⟨kb, hkb, h⟩ := h
    have T2H := Aside0.mk t2
    clear t2
    have T1 := Aside0.mk hv1
    have T2 := Aside0.mk hkb
    have T3 := Aside0.mk h
    clear h hv1 hkb
    go_enter Try.func87, Try.ntmps87
    go_wp2_with fail
    go_quiet (first | (go_at_call 107; with_reducible refine Calls.quiet_of_same (size_at HSV.out (HR.out.drewN _))) | (go_at_call 107; with_reducible refine Calls.quiet_of_same (size_calls HO.out (HR.out.drewN _))) | (go_at_call 108; with_reducible refine Calls.quiet_of_same (heavy_calls _ T0H.out)))
    go_wp2_with fail
    go_quiet (first | (go_at_call 107; with_reducible refine quiet_more (size_at HSV.out (HR.out.drewN _))) | (go_at_call 107; with_reducible refine quiet_more (size_calls HO.out (HR.out.drewN _))) | (go_at_call 108; with_reducible refine quiet_more (heavy_calls _ T1H.out)))
    go_wp2_with fail
    go_quiet (first | (go_at_call 107; with_reducible refine quiet_more (size_calls HA.out (HR.out.drewN _))) | (go_at_call 107; with_reducible refine quiet_more (size_calls HC.out (HR.out.drewN _))))
    rw [show decide (wrap64 (2 * wrap64 (c + 1)) ≤ wrap64 (a + 1)) = true from T2H.out]
    go_wp2_with fail
    with_reducible refine (turnR_calls T1.out (HR.out.drewN _)).mono ?_
    rintro e w1 ⟨rfl, g1⟩
    have G1 := Aside0.mk (((Wr.refl HR.out).drewN _).trans g1)
    have e3 := ((G1.out.rep b kb T2.out).cells).2.2.1
    have f3' := (G1.out.rep b kb T2.out).free 2
    clear g1 c0 c1 c2 c3 c4 c5 d0 d1 d2 d3 d4 d5 f3
    have G2 := Aside0.mk (Wr.set G1.out (b := b) (i := 2) (k' := { kb with l := some v1.1 }) (v := .pointer (some ⟨v1.1, 0, none⟩)) T2.out rfl)
    go_wp2_with fail
    with_reducible refine (turnL_calls T3.out G2.out.rep).mono ?_
    rintro e w2 ⟨rfl, g2⟩
    have G3 := Aside0.mk (G2.out.trans g2)
    clear g2 e3 f3'
    go_wp2
    go_ret
    exact ⟨rfl, G3.out⟩
  · rw [if_neg t2] at h
    have T2H := Aside0.mk (Bool.eq_false_iff.2 t2)
    clear t2
    have T3 := Aside0.mk h
    clear h
    go_enter Try.func87, Try.ntmps87
    go_wp2_with fail
    go_quiet (first | (go_at_call 107; with_reducible refine Calls.quiet_of_same (size_at HSV.out (HR.out.drewN _))) | (go_at_call 107; with_reducible refine Calls.quiet_of_same (size_calls HO.out (HR.out.drewN _))) | (go_at_call 108; with_reducible refine Calls.quiet_of_same (heavy_calls _ T0H.out)))
    go_wp2_with fail
    go_quiet (first | (go_at_call 107; with_reducible refine quiet_more (size_at HSV.out (HR.out.drewN _))) | (go_at_call 107; with_reducible refine quiet_more (size_calls HO.out (HR.out.drewN _))) | (go_at_call 108; with_reducible refine quiet_more (heavy_calls _ T1H.out)))
    go_wp2_with fail
    go_quiet (first | (go_at_call 107; with_reducible refine quiet_more (size_calls HA.out (HR.out.drewN _))) | (go_at_call 107; with_reducible refine quiet_more (size_calls HC.out (HR.out.drewN _))))
    rw [show decide (wrap64 (2 * wrap64 (c + 1)) ≤ wrap64 (a + 1)) = false from T2H.out]
    go_wp2_with fail
    with_reducible refine (turnL_calls T3.out (HR.out.drewN _)).mono ?_
    rintro e w1 ⟨rfl, g1⟩
    have G1 := Aside0.mk (((Wr.refl HR.out).drewN _).trans g1)
    clear g1 c0 c1 c2 c3 c4 c5 d0 d1 d2 d3 d4 d5 f3
    go_wp2
    go_ret
    exact ⟨rfl, G1.out⟩
set_option maxHeartbeats 1600000 in
set_option maxRecDepth 100000 in
theorem bal_calls {H H' : KH} {b u : Nat} {w : World} (h : balH H b = some (u, H')) (hr : Rep w H) :
    Calls Try.prog 87 #[.pointer (some ⟨b, 0, none⟩)] w fun e w' => e = .returned (.pointer (some ⟨u, 0, none⟩)) ∧ Wr w H w' H' := by
  replace h := Option.bind_eq_some_iff.1 h
  obtain ⟨k, hk, h⟩ := h
  replace h := Option.bind_eq_some_iff.1 h
  obtain ⟨sr, hsr, h⟩ := h
  replace h := Option.bind_eq_some_iff.1 h
  obtain ⟨sl, hsl, h⟩ := h
  by_cases t1 : hvy sr sl = true
  · rw [if_pos t1] at h
    exact balR_calls hr hk hsr hsl t1 h
  rw [if_neg t1] at h
  replace t1 := Bool.eq_false_iff.2 t1
  by_cases t2 : hvy sl sr = true
  · rw [if_pos t2] at h
    exact balL_calls hr hk hsr hsl t1 t2 h
  rw [if_neg t2] at h
  replace t2 := Bool.eq_false_iff.2 t2
  replace h := Option.bind_eq_some_iff.1 h
  obtain ⟨k', hk', h⟩ := h
  replace h := Prod.mk.inj (Option.some.inj h)
  obtain ⟨rfl, rfl⟩ := h
  obtain ⟨c0, c1, c2, c3, c4, c5⟩ := (hr b k hk).cells
  have HR := Aside0.mk hr
  have HSR := Aside0.mk hsr
  have HSL := Aside0.mk hsl
  have HK := Aside0.mk hk
  have HK' := Aside0.mk hk'
  have T0H := Aside0.mk t1
  have T1H := Aside0.mk t2
  clear hr hsr hsl hk hk' t1 t2
  go_enter Try.func87, Try.ntmps87
  go_wp2_with fail
  go_quiet (first | (go_at_call 107; with_reducible refine Calls.quiet_of_same (size_calls HSR.out (HR.out.drewN _))) | (go_at_call 107; with_reducible refine Calls.quiet_of_same (size_calls HSL.out (HR.out.drewN _))) | (go_at_call 108; with_reducible refine Calls.quiet_of_same (heavy_calls _ T0H.out)))
  go_wp2_with fail
  go_quiet (first | (go_at_call 107; with_reducible refine quiet_more (size_calls HSR.out (HR.out.drewN _))) | (go_at_call 107; with_reducible refine quiet_more (size_calls HSL.out (HR.out.drewN _))) | (go_at_call 108; with_reducible refine quiet_more (heavy_calls _ T1H.out)))
  go_wp2_with fail
  with_reducible refine (count_calls HK.out HK'.out (HR.out.drewN _)).mono ?_
  rintro e w1 ⟨rfl, g1⟩
  have G1 := Aside0.mk (((Wr.refl HR.out).drewN _).trans g1)
  clear g1 c0 c1 c2 c3 c4 c5
  go_wp2
  go_ret
  exact ⟨rfl, G1.out⟩
end Go.Proofs.Ytlglopainaploaa.Tal
/-! A thing more in the tree. -/
namespace Go.Proofs.Ytlglopainaploaa.Tal
open Go.RowKit Go.Proofs.YtlglopainaploaaW.PrintWords Go.Proofs.YtlglopainaploaaW.PrintLast Go.Proofs.YtlglopainaploaaW.PrintMore
set_option linter.unusedVariables false
set_option linter.unusedSimpArgs false

def leafK (x : Int) : Kn := ⟨x, 1, none, none, 0, 0⟩
def withH : Nat → Nat → KH → Option Nat → Int → Option (Nat × KH)
  | 0, _, _, _, _ => none
  | n + 1, nb, H, none, x => (countK (H.put nb (leafK x)) (leafK x)).bind fun k' => some (nb, (H.put nb (leafK x)).put nb k')
  | n + 1, nb, H, some b, x => (H b).bind fun k => if x < k.x then (withH n nb H k.l x).bind fun v => (v.2 b).bind fun kb => balH (v.2.put b { kb with l := some v.1 }) b
    else if k.x < x then (withH n nb H k.r x).bind fun v => (v.2 b).bind fun kb => balH (v.2.put b { kb with r := some v.1 }) b
    else balH (H.put b { k with often := wrap64 (k.often + 1) }) b
set_option maxHeartbeats 1600000 in
set_option maxRecDepth 100000 in
theorem with_leaf {H H' : KH} {x : Int} {u : Nat} {n : Nat} {w : World} (h : withH (n + 1) w.heap.size H none x = some (u, H')) (hr : Rep w H) :
    Calls Try.prog 51 #[.pointer none, .int .i64 x] w fun e w' => e = .returned (.pointer (some ⟨u, 0, none⟩)) ∧ Wr w H w' H' := by
  simp only [withH] at h
  replace h := Option.bind_eq_some_iff.1 h
  obtain ⟨k', hk', h⟩ := h
  replace h := Prod.mk.inj (Option.some.inj h)
  obtain ⟨rfl, rfl⟩ := h
  have HK := Aside0.mk hk'
  have HN := Aside0.mk ((Wr.refl hr).new (leafK x))
  clear hr hk'
  go_enter Try.func51, Try.ntmps51
  go_wp2_with fail
  refine (count_calls (put_same _ _ _) HK.out HN.out.rep).mono ?_
  rintro e w1 ⟨rfl, g1⟩
  have G1 := Aside0.mk (HN.out.trans g1)
  clear g1
  go_wp2
  go_ret
  exact ⟨rfl, G1.out⟩
set_option maxHeartbeats 1600000 in
set_option maxRecDepth 100000 in
theorem with_calls : ∀ (n : Nat) {H H' : KH} {p : Option Nat} {x : Int} {u : Nat} {w : World}, withH n w.heap.size H p x = some (u, H') → Rep w H →
    Calls Try.prog 51 #[.pointer (pa p), .int .i64 x] w fun e w' => e = .returned (.pointer (some ⟨u, 0, none⟩)) ∧ Wr w H w' H' := by
  intro n
  induction n with
  | zero => intro H H' p x u w h; simp [withH] at h
  | succ n ih =>
    intro H H' p x u w h hr
    cases p with
    | none => exact with_leaf h hr
    | some b =>
      simp only [withH] at h
      replace h := Option.bind_eq_some_iff.1 h
      obtain ⟨k, hk, h⟩ := h
      obtain ⟨c0, c1, c2, c3, c4, c5⟩ := (hr b k hk).cells
      have HR := Aside0.mk hr
      have HK := Aside0.mk hk
      have IH := Aside0.mk @ih
      clear ih
      show Calls Try.prog 51 #[.pointer (some ⟨b, 0, none⟩), .int .i64 x] w _
      by_cases l1 : x < k.x
      · rw [if_pos l1] at h
        replace h := Option.bind_eq_some_iff.1 h
        obtain ⟨v, hv, h⟩ := h
        replace h := Option.bind_eq_some_iff.1 h
        obtain ⟨kb, hkb, h⟩ := h
        have HV := Aside0.mk hv
        have HKB := Aside0.mk hkb
        have HB := Aside0.mk h
        have d1 : decide (x < k.x) = true := decide_eq_true l1
        clear hr hk hv hkb h l1
        go_enter Try.func51, Try.ntmps51
        go_wp2_with fail
        with_reducible refine (IH.out HV.out HR.out).mono ?_
        rintro e w1 ⟨rfl, g1⟩
        have G1 := Aside0.mk g1
        have e3 := ((g1.rep b kb HKB.out).cells).2.2.1
        have f3 := (g1.rep b kb HKB.out).free 2
        clear g1 c0 c1 c2 c3 c4 c5
        have G2 := Aside0.mk (Wr.set G1.out (b := b) (i := 2) (k' := { kb with l := some v.1 }) (v := .pointer (some ⟨v.1, 0, none⟩)) HKB.out rfl)
        go_wp2_with fail
        with_reducible refine (bal_calls HB.out G2.out.rep).mono ?_
        rintro e w2 ⟨rfl, g2⟩
        have G3 := Aside0.mk (G2.out.trans g2)
        clear g2 e3 f3
        go_wp2
        go_ret
        exact ⟨rfl, G3.out⟩
      · rw [if_neg l1] at h
        have d1 : decide (x < k.x) = false := decide_eq_false l1
        by_cases l2 : k.x < x
        · rw [if_pos l2] at h
          replace h := Option.bind_eq_some_iff.1 h
          obtain ⟨v, hv, h⟩ := h
          replace h := Option.bind_eq_some_iff.1 h
          obtain ⟨kb, hkb, h⟩ := h
          have HV := Aside0.mk hv
          have HKB := Aside0.mk hkb
          have HB := Aside0.mk h
          have d2 : decide (k.x < x) = true := decide_eq_true l2
          clear hr hk hv hkb h l1 l2
          go_enter Try.func51, Try.ntmps51
          go_wp2_with fail
          with_reducible refine (IH.out HV.out HR.out).mono ?_
          rintro e w1 ⟨rfl, g1⟩
          have G1 := Aside0.mk g1
          have e3 := ((g1.rep b kb HKB.out).cells).2.2.2.1
          have f3 := (g1.rep b kb HKB.out).free 3
          clear g1 c0 c1 c2 c3 c4 c5
          have G2 := Aside0.mk (Wr.set G1.out (b := b) (i := 3) (k' := { kb with r := some v.1 }) (v := .pointer (some ⟨v.1, 0, none⟩)) HKB.out rfl)
          go_wp2_with fail
          with_reducible refine (bal_calls HB.out G2.out.rep).mono ?_
          rintro e w2 ⟨rfl, g2⟩
          have G3 := Aside0.mk (G2.out.trans g2)
          clear g2 e3 f3
          go_wp2
          go_ret
          exact ⟨rfl, G3.out⟩
        · rw [if_neg l2] at h
          have d2 : decide (k.x < x) = false := decide_eq_false l2
          have f1 := (hr b k hk).free 1
          have HB := Aside0.mk h
          have G2 := Aside0.mk (Wr.set (Wr.refl hr) (b := b) (i := 1) (k' := { k with often := wrap64 (k.often + 1) }) (v := .int .i64 (wrap64 (k.often + 1))) hk rfl)
          clear hr hk h l1 l2
          go_enter Try.func51, Try.ntmps51
          go_wp2_with fail
          with_reducible refine (bal_calls HB.out G2.out.rep).mono ?_
          rintro e w2 ⟨rfl, g2⟩
          have G3 := Aside0.mk (G2.out.trans g2)
          clear g2
          go_wp2
          go_ret
          exact ⟨rfl, G3.out⟩
end Go.Proofs.Ytlglopainaploaa.Tal
/-! A tree without its first knot; a thing less in the tree. -/
namespace Go.Proofs.Ytlglopainaploaa.Tal
open Go.RowKit Go.Proofs.YtlglopainaploaaW.PrintWords Go.Proofs.YtlglopainaploaaW.PrintLast Go.Proofs.YtlglopainaploaaW.PrintMore
set_option linter.unusedVariables false
set_option linter.unusedSimpArgs false

def cutH : Nat → KH → Nat → Option (Option Nat × Nat × KH)
  | 0, _, _ => none
  | n + 1, H, b => (H b).bind fun k => match k.l with
    | none => some (k.r, b, H)
    | some c => (cutH n H c).bind fun v => (v.2.2 b).bind fun kb => (balH (v.2.2.put b { kb with l := v.1 }) b).bind fun t => some (some t.1, v.2.1, t.2)
theorem cutH_none {n : Nat} {H : KH} {b : Nat} {k : Kn} (hk : H b = some k) (hl : k.l = none) : cutH (n + 1) H b = some (k.r, b, H) := by
  simp only [cutH, hk, Option.bind_some, hl]
theorem cutH_some {n : Nat} {H : KH} {b c : Nat} {k : Kn} (hk : H b = some k) (hl : k.l = some c) : cutH (n + 1) H b = (cutH n H c).bind fun v => (v.2.2 b).bind fun kb => (balH (v.2.2.put b { kb with l := v.1 }) b).bind fun t => some (some t.1, v.2.1, t.2) := by
  simp only [cutH, hk, Option.bind_some, hl]
set_option maxHeartbeats 1600000 in
set_option maxRecDepth 100000 in
theorem cut_calls : ∀ (n : Nat) {H H' : KH} {b u : Nat} {p : Option Nat} {w : World}, cutH n H b = some (p, u, H') → Rep w H →
    Calls Try.prog 88 #[.pointer (some ⟨b, 0, none⟩)] w fun e w' => e = .returned (.tuple #[.pointer (pa p), .pointer (some ⟨u, 0, none⟩)]) ∧ Wr w H w' H' := by
  intro n
  induction n with
  | zero => intro H H' b u p w h; simp [cutH] at h
  | succ n ih =>
    intro H H' b u p w h hr
    cases hk : H b with
    | none => simp [cutH, hk] at h
    | some k =>
    obtain ⟨c0, c1, c2, c3, c4, c5⟩ := (hr b k hk).cells
    have IH := Aside0.mk @ih
    clear ih
    cases hl : k.l with
    | none =>
      rw [cutH_none hk hl] at h
      replace h := Option.some.inj h
      obtain ⟨rfl, h2⟩ := Prod.mk.inj h
      clear h
      obtain ⟨rfl, rfl⟩ := Prod.mk.inj h2
      rw [hl] at c2
      replace c2 : w.cell? ⟨b, 2, none⟩ = some (.pointer none) := c2
      have HR := Aside0.mk hr
      clear hr hk hl h2
      go_enter Try.func88, Try.ntmps88
      go_wp2
      go_ret2
      exact ⟨rfl, (Wr.refl HR.out).drewN 0⟩
    | some c =>
      rw [cutH_some hk hl] at h
      replace h := Option.bind_eq_some_iff.1 h
      obtain ⟨v, hv, h⟩ := h
      replace h := Option.bind_eq_some_iff.1 h
      obtain ⟨kb, hkb, h⟩ := h
      replace h := Option.bind_eq_some_iff.1 h
      obtain ⟨t, ht, h⟩ := h
      replace h := Option.some.inj h
      obtain ⟨rfl, h2⟩ := Prod.mk.inj h
      clear h
      obtain ⟨rfl, rfl⟩ := Prod.mk.inj h2
      rw [hl] at c2
      replace c2 : w.cell? ⟨b, 2, none⟩ = some (.pointer (some ⟨c, 0, none⟩)) := c2
      have HR := Aside0.mk hr
      have HV := Aside0.mk hv
      have HKB := Aside0.mk hkb
      have HB := Aside0.mk ht
      clear hr hk hl h2 hv hkb ht
      go_enter Try.func88, Try.ntmps88
      go_wp2_with fail
      with_reducible refine (IH.out HV.out HR.out).mono ?_
      rintro e w1 ⟨rfl, g1⟩
      have G1 := Aside0.mk g1
      have e3 := ((g1.rep b kb HKB.out).cells).2.2.1
      have f3 := (g1.rep b kb HKB.out).free 2
      clear g1 c0 c1 c2 c3 c4 c5
      have G2 := Aside0.mk (Wr.set G1.out (b := b) (i := 2) (k' := { kb with l := v.1 }) (v := .pointer (pa v.1)) HKB.out rfl)
      go_wp2_with fail
      with_reducible refine (bal_calls HB.out G2.out.rep).mono ?_
      rintro e w2 ⟨rfl, g2⟩
      have G3 := Aside0.mk (G2.out.trans g2)
      clear g2 e3 f3
      go_wp2
      go_ret2
      exact ⟨rfl, G3.out⟩
def withoutH : Nat → KH → Nat → Int → Option (Option Nat × KH)
  | 0, _, _, _ => none
  | n + 1, H, b, x => (H b).bind fun k =>
    if x < k.x then k.l.bind fun c => (withoutH n H c x).bind fun v => (v.2 b).bind fun kb => (balH (v.2.put b { kb with l := v.1 }) b).bind fun t => some (some t.1, t.2)
    else if k.x < x then k.r.bind fun c => (withoutH n H c x).bind fun v => (v.2 b).bind fun kb => (balH (v.2.put b { kb with r := v.1 }) b).bind fun t => some (some t.1, t.2)
    else if 1 < k.often then (balH (H.put b { k with often := wrap64 (k.often - 1) }) b).bind fun t => some (some t.1, t.2)
    else if k.l = none then some (k.r, H) else if k.r = none then some (k.l, H)
    else k.r.bind fun c => (cutH n H c).bind fun v => (v.2.2 b).bind fun kb => (v.2.2 v.2.1).bind fun kn =>
      (balH ((v.2.2.put v.2.1 { kn with l := kb.l }).put v.2.1 { kn with l := kb.l, r := v.1 }) v.2.1).bind fun t => some (some t.1, t.2)
set_option maxHeartbeats 3200000 in
set_option maxRecDepth 100000 in
theorem without_calls : ∀ (n : Nat) {H H' : KH} {b : Nat} {x : Int} {p : Option Nat} {w : World}, withoutH n H b x = some (p, H') → Rep w H →
    Calls Try.prog 53 #[.pointer (some ⟨b, 0, none⟩), .int .i64 x] w fun e w' => e = .returned (.pointer (pa p)) ∧ Wr w H w' H' := by
  intro n
  induction n with
  | zero => intro H H' b x p w h; simp [withoutH] at h
  | succ n ih =>
    intro H H' b x p w h hr
    simp only [withoutH] at h
    replace h := Option.bind_eq_some_iff.1 h
    obtain ⟨k, hk, h⟩ := h
    obtain ⟨c0, c1, c2, c3, c4, c5⟩ := (hr b k hk).cells
    have IH := Aside0.mk @ih
    have HR := Aside0.mk hr
    have HK := Aside0.mk hk
    clear ih
    by_cases l1 : x < k.x
    · rw [if_pos l1] at h
      replace h := Option.bind_eq_some_iff.1 h
      obtain ⟨c, hc, h⟩ := h
      replace h := Option.bind_eq_some_iff.1 h
      obtain ⟨v, hv, h⟩ := h
      replace h := Option.bind_eq_some_iff.1 h
      obtain ⟨kb, hkb, h⟩ := h
      replace h := Option.bind_eq_some_iff.1 h
      obtain ⟨t, ht, h⟩ := h
      replace h := Prod.mk.inj (Option.some.inj h)
      obtain ⟨rfl, rfl⟩ := h
      rw [hc] at c2
      replace c2 : w.cell? ⟨b, 2, none⟩ = some (.pointer (some ⟨c, 0, none⟩)) := c2
      have HV := Aside0.mk hv
      have HKB := Aside0.mk hkb
      have HB := Aside0.mk ht
      have d1 : decide (x < k.x) = true := decide_eq_true l1
      clear hr hk hv hkb ht hc l1 
      go_enter Try.func53, Try.ntmps53
      go_wp2_with fail
      with_reducible refine (IH.out HV.out HR.out).mono ?_
      rintro e w1 ⟨rfl, g1⟩
      have G1 := Aside0.mk g1
      have e3 := ((g1.rep b kb HKB.out).cells).2.2.1
      have f3 := (g1.rep b kb HKB.out).free 2
      clear g1 c0 c1 c2 c3 c4 c5
      have G2 := Aside0.mk (Wr.set G1.out (b := b) (i := 2) (k' := { kb with l := v.1 }) (v := .pointer (pa v.1)) HKB.out rfl)
      go_wp2_with fail
      with_reducible refine (bal_calls HB.out G2.out.rep).mono ?_
      rintro e w2 ⟨rfl, g2⟩
      have G3 := Aside0.mk (G2.out.trans g2)
      clear g2 e3 f3
      go_wp2
      go_ret
      exact ⟨rfl, G3.out⟩
    rw [if_neg l1] at h
    have d1 : decide (x < k.x) = false := decide_eq_false l1
    by_cases l2 : k.x < x
    · rw [if_pos l2] at h
      replace h := Option.bind_eq_some_iff.1 h
      obtain ⟨c, hc, h⟩ := h
      replace h := Option.bind_eq_some_iff.1 h
      obtain ⟨v, hv, h⟩ := h
      replace h := Option.bind_eq_some_iff.1 h
      obtain ⟨kb, hkb, h⟩ := h
      replace h := Option.bind_eq_some_iff.1 h
      obtain ⟨t, ht, h⟩ := h
      replace h := Prod.mk.inj (Option.some.inj h)
      obtain ⟨rfl, rfl⟩ := h
      rw [hc] at c3
      replace c3 : w.cell? ⟨b, 3, none⟩ = some (.pointer (some ⟨c, 0, none⟩)) := c3
      have HV := Aside0.mk hv
      have HKB := Aside0.mk hkb
      have HB := Aside0.mk ht
      have d2 : decide (k.x < x) = true := decide_eq_true l2
      clear hr hk hv hkb ht hc l1 l2
      go_enter Try.func53, Try.ntmps53
      go_wp2_with fail
      with_reducible refine (IH.out HV.out HR.out).mono ?_
      rintro e w1 ⟨rfl, g1⟩
      have G1 := Aside0.mk g1
      have e3 := ((g1.rep b kb HKB.out).cells).2.2.2.1
      have f3 := (g1.rep b kb HKB.out).free 3
      clear g1 c0 c1 c2 c3 c4 c5
      have G2 := Aside0.mk (Wr.set G1.out (b := b) (i := 3) (k' := { kb with r := v.1 }) (v := .pointer (pa v.1)) HKB.out rfl)
      go_wp2_with fail
      with_reducible refine (bal_calls HB.out G2.out.rep).mono ?_
      rintro e w2 ⟨rfl, g2⟩
      have G3 := Aside0.mk (G2.out.trans g2)
      clear g2 e3 f3
      go_wp2
      go_ret
      exact ⟨rfl, G3.out⟩
    rw [if_neg l2] at h
    have d2 : decide (k.x < x) = false := decide_eq_false l2
    clear l1 l2
    by_cases l3 : 1 < k.often
    · rw [if_pos l3] at h
      replace h := Option.bind_eq_some_iff.1 h
      obtain ⟨t, ht, h⟩ := h
      replace h := Prod.mk.inj (Option.some.inj h)
      obtain ⟨rfl, rfl⟩ := h
      have d3 : decide (1 < k.often) = true := decide_eq_true l3
      have f1 := (hr b k hk).free 1
      have HB := Aside0.mk ht
      have G2 := Aside0.mk (Wr.set (Wr.refl hr) (b := b) (i := 1) (k' := { k with often := wrap64 (k.often - 1) }) (v := .int .i64 (wrap64 (k.often - 1))) hk rfl)
      clear hr hk ht l3
      go_enter Try.func53, Try.ntmps53
      go_wp2_with fail
      with_reducible refine (bal_calls HB.out G2.out.rep).mono ?_
      rintro e w2 ⟨rfl, g2⟩
      have G3 := Aside0.mk (G2.out.trans g2)
      clear g2
      go_wp2
      go_ret
      exact ⟨rfl, G3.out⟩
    rw [if_neg l3] at h
    have d3 : decide (1 < k.often) = false := decide_eq_false l3
    clear l3
    cases hl : k.l with
    | none =>
      rw [if_pos hl] at h
      replace h := Prod.mk.inj (Option.some.inj h)
      obtain ⟨rfl, rfl⟩ := h
      rw [hl] at c2
      replace c2 : w.cell? ⟨b, 2, none⟩ = some (.pointer none) := c2
      clear hr hk hl
      go_enter Try.func53, Try.ntmps53
      go_wp2
      go_ret
      exact ⟨rfl, (Wr.refl HR.out).drewN 0⟩
    | some lb =>
    rw [if_neg (by rw [hl]; intro q; cases q)] at h
    have c2' := c2
    rw [hl] at c2'
    replace c2' : w.cell? ⟨b, 2, none⟩ = some (.pointer (some ⟨lb, 0, none⟩)) := c2'
    cases hrr : k.r with
    | none =>
      rw [if_pos hrr] at h
      replace h := Prod.mk.inj (Option.some.inj h)
      obtain ⟨rfl, rfl⟩ := h
      rw [hl]
      show Calls _ _ _ _ fun e w' => e = .returned (.pointer (some ⟨lb, 0, none⟩)) ∧ Wr w H w' H
      rw [hrr] at c3
      replace c3 : w.cell? ⟨b, 3, none⟩ = some (.pointer none) := c3
      clear hr hk hl hrr c2
      go_enter Try.func53, Try.ntmps53
      go_wp2
      go_ret
      exact ⟨rfl, (Wr.refl HR.out).drewN 0⟩
    | some rb =>
      rw [if_neg (by rw [hrr]; intro q; cases q)] at h
      replace h := Option.bind_eq_some_iff.1 h
      obtain ⟨c, hc, h⟩ := h
      replace h := Option.bind_eq_some_iff.1 h
      obtain ⟨v, hv, h⟩ := h
      replace h := Option.bind_eq_some_iff.1 h
      obtain ⟨kb, hkb, h⟩ := h
      replace h := Option.bind_eq_some_iff.1 h
      obtain ⟨kn, hkn, h⟩ := h
      replace h := Option.bind_eq_some_iff.1 h
      obtain ⟨t, ht, h⟩ := h
      replace h := Prod.mk.inj (Option.some.inj h)
      obtain ⟨rfl, rfl⟩ := h
      rw [hc] at hrr
      obtain rfl := Option.some.inj hrr
      rw [hc] at c3
      replace c3 : w.cell? ⟨b, 3, none⟩ = some (.pointer (some ⟨c, 0, none⟩)) := c3
      have HV := Aside0.mk hv
      have HKB := Aside0.mk hkb
      have HKN := Aside0.mk hkn
      have HB := Aside0.mk ht
      clear hr hk hv hkb hkn ht hc hl c2 hrr
      go_enter Try.func53, Try.ntmps53
      go_wp2_with fail
      refine (cut_calls n HV.out HR.out).mono ?_
      rintro e w1 ⟨rfl, g1⟩
      have G1 := Aside0.mk g1
      have e2 := ((g1.rep b kb HKB.out).cells).2.2.1
      have m2 := ((g1.rep _ kn HKN.out).cells).2.2.1
      have m3 := ((g1.rep _ kn HKN.out).cells).2.2.2.1
      have f2 := (g1.rep _ kn HKN.out).free 2
      have f3 := (g1.rep _ kn HKN.out).free 3
      clear g1 c0 c1 c2' c3 c4 c5
      have G2 := Aside0.mk ((Wr.set G1.out (b := v.2.1) (i := 2) (k' := { kn with l := kb.l }) (v := .pointer (pa kb.l)) HKN.out rfl).set (b := v.2.1) (i := 3) (k' := { kn with l := kb.l, r := v.1 }) (v := .pointer (pa v.1)) (put_same _ _ _) rfl)
      go_wp2_with fail
      with_reducible refine (bal_calls HB.out G2.out.rep).mono ?_
      rintro e w2 ⟨rfl, g2⟩
      have G3 := Aside0.mk (G2.out.trans g2)
      clear g2 e2 m2 m3 f2 f3
      go_wp2
      go_ret
      exact ⟨rfl, G3.out⟩
end Go.Proofs.Ytlglopainaploaa.Tal
/-! What is asked of a tree: how often a thing is there, how many are below it, what stands at a place, how high it is. -/
namespace Go.Proofs.Ytlglopainaploaa.Tal
open Go.RowKit Go.Proofs.YtlglopainaploaaW.PrintWords Go.Proofs.YtlglopainaploaaW.PrintLast Go.Proofs.YtlglopainaploaaW.PrintMore
attribute [local go_sem] max2_int min2_int max_two min_two max_three min_three max_four min_four
set_option linter.unusedVariables false
set_option linter.unusedSimpArgs false

def oftenH : Nat → KH → Option Nat → Int → Option Int
  | 0, _, _, _ => none
  | _ + 1, _, none, _ => some 0
  | n + 1, H, some b, x => (H b).bind fun k => if x < k.x then oftenH n H k.l x else if k.x < x then oftenH n H k.r x else some k.often
def belowH : Nat → KH → Option Nat → Int → Int → Option Int
  | 0, _, _, _, _ => none
  | _ + 1, _, none, _, a => some a
  | n + 1, H, some b, x, a => (H b).bind fun k => if x ≤ k.x then belowH n H k.l x a else (totalH H k.l).bind fun t => belowH n H k.r x (wrap64 (a + wrap64 (t + k.often)))
def atH : Nat → KH → Nat → Int → Option Int
  | 0, _, _, _ => none
  | n + 1, H, b, i => (H b).bind fun k => (totalH H k.l).bind fun t => if i < t then k.l.bind fun c => atH n H c i else if i < wrap64 (t + k.often) then some k.x else k.r.bind fun c => atH n H c (wrap64 (i - wrap64 (t + k.often)))
def heightH : Nat → KH → Option Nat → Option Int
  | 0, _, _ => none
  | _ + 1, _, none => some 0
  | n + 1, H, some b => (H b).bind fun k => (heightH n H k.l).bind fun a => (heightH n H k.r).bind fun c => some (wrap64 (1 + mx a c))
theorem quiet_drawn {P : Program} {f : FuncId} {args : Array Value} {w : World} {n : Nat} {v : Value} (h : Calls P f args (w.drewN n) fun e w' => e = .returned v ∧ Drawn0 (w.drewN n) w') :
    Calls P f args (w.drewN n) fun e w'' => e = .returned v ∧ ∃ m, w'' = w.drewN m := h.mono fun _ _ ⟨he, ⟨m, hm⟩⟩ => ⟨he, n + m, by rw [hm]; simp [World.drewN, Nat.add_assoc]⟩
theorem total_at {H : KH} {b : Nat} {t : Int} {w : World} (h : totalH H (some b) = some t) (hr : Rep w H) :
    Calls Try.prog 83 #[.pointer (some ⟨b, 0, none⟩)] w fun e w' => e = .returned (.int .i64 t) ∧ w' = w := total_calls (p := some b) h hr
set_option maxHeartbeats 1600000 in
set_option maxRecDepth 100000 in
theorem often_calls {n : Nat} {H : KH} {g : Nat} {p : Option Nat} {x r : Int} {w : World} (h : oftenH n H p x = some r) (hr : Rep w H) (hg : w.cell? ⟨g, 0, none⟩ = some (.pointer (pa p))) :
    Calls Try.prog 56 #[.pointer (some ⟨g, 0, none⟩), .int .i64 x] w fun e w' => e = .returned (.int .i64 r) ∧ Drawn0 w w' := by
  have HR := Aside0.mk hr
  have H' := Aside0.mk h
  clear hr h
  go_enter Try.func56, Try.ntmps56
  go_wp2
  go_loopg [5] n (fun kq v5 w' => ∃ q : Option Nat, v5 = .pointer (pa q) ∧ Aside0 (oftenH kq H q x = some r) ∧ Aside0 (kq ≤ n) ∧ Drawn0 w w')
  case atStart => exact ⟨p, rfl, H', ⟨Nat.le_refl _⟩, Drawn0.refl _⟩
  case round =>
    clear H' hg
    obtain ⟨q, rfl, HA, HK1, ⟨m1, rfl⟩⟩ := hrel
    cases gk with
    | zero => exact absurd HA.out (by simp [oftenH])
    | succ k1 =>
      have h := HA.out
      clear HA
      cases q with
      | none =>
        simp only [oftenH, Option.some.injEq] at h
        subst h
        have hp : pa none = none := rfl
        go_wp2
        go_ret
        exact ⟨rfl, ⟨m1, rfl⟩⟩
      | some b =>
        simp only [oftenH] at h
        replace h := Option.bind_eq_some_iff.1 h
        obtain ⟨k, hk, h⟩ := h
        obtain ⟨c0, c1, c2, c3, c4, c5⟩ := (HR.out b k hk).cells
        have hp : pa (some b) = some ⟨b, 0, none⟩ := rfl
        clear hk
        by_cases l1 : x < k.x
        · rw [if_pos l1] at h
          have d1 : decide (x < k.x) = true := decide_eq_true l1
          have H' := Aside0.mk h
          clear h l1
          go_wp2
          go_roundg k1
          case measure => have := HK1.out; omega
          case rel => exact ⟨_, rfl, H', ⟨by have := HK1.out; omega⟩, ⟨m1, rfl⟩⟩
        · rw [if_neg l1] at h
          have d1 : decide (x < k.x) = false := decide_eq_false l1
          by_cases l2 : k.x < x
          · rw [if_pos l2] at h
            have d2 : decide (k.x < x) = true := decide_eq_true l2
            have H' := Aside0.mk h
            clear h l1 l2
            go_wp2
            go_roundg k1
            case measure => have := HK1.out; omega
            case rel => exact ⟨_, rfl, H', ⟨by have := HK1.out; omega⟩, ⟨m1, rfl⟩⟩
          · rw [if_neg l2] at h
            have d2 : decide (k.x < x) = false := decide_eq_false l2
            obtain rfl := Option.some.inj h
            clear h l1 l2
            go_wp2
            go_ret
            exact ⟨rfl, ⟨m1, rfl⟩⟩
set_option maxHeartbeats 1600000 in
set_option maxRecDepth 100000 in
theorem below_calls {n : Nat} {H : KH} {g : Nat} {p : Option Nat} {x r : Int} {w : World} (h : belowH n H p x 0 = some r) (hr : Rep w H) (hg : w.cell? ⟨g, 0, none⟩ = some (.pointer (pa p))) :
    Calls Try.prog 55 #[.pointer (some ⟨g, 0, none⟩), .int .i64 x] w fun e w' => e = .returned (.int .i64 r) ∧ Drawn0 w w' := by
  have HR := Aside0.mk hr
  have H' := Aside0.mk h
  clear hr h
  go_enter Try.func55, Try.ntmps55
  go_wp2
  go_loopg [5, 6] n (fun kq v5 v6 w' => ∃ (a : Int) (q : Option Nat), v5 = .int .i64 a ∧ v6 = .pointer (pa q) ∧ Aside0 (belowH kq H q x a = some r) ∧ Aside0 (kq ≤ n) ∧ Drawn0 w w')
  case atStart => exact ⟨0, p, rfl, rfl, H', ⟨Nat.le_refl _⟩, Drawn0.refl _⟩
  case round =>
    clear H' hg
    obtain ⟨a, q, rfl, rfl, HA, HK1, ⟨m1, rfl⟩⟩ := hrel
    cases gk with
    | zero => exact absurd HA.out (by simp [belowH])
    | succ k1 =>
      have h := HA.out
      clear HA
      cases q with
      | none =>
        simp only [belowH, Option.some.injEq] at h
        subst h
        have hp : pa none = none := rfl
        go_wp2
        go_ret
        exact ⟨rfl, ⟨m1, rfl⟩⟩
      | some b =>
        simp only [belowH] at h
        replace h := Option.bind_eq_some_iff.1 h
        obtain ⟨k, hk, h⟩ := h
        obtain ⟨c0, c1, c2, c3, c4, c5⟩ := (HR.out b k hk).cells
        have hp : pa (some b) = some ⟨b, 0, none⟩ := rfl
        clear hk
        by_cases l1 : x ≤ k.x
        · rw [if_pos l1] at h
          have d1 : decide (x ≤ k.x) = true := decide_eq_true l1
          have H' := Aside0.mk h
          clear h l1
          go_wp2
          go_roundg k1
          case measure => have := HK1.out; omega
          case rel => exact ⟨_, _, rfl, rfl, H', ⟨by have := HK1.out; omega⟩, ⟨m1, rfl⟩⟩
        · rw [if_neg l1] at h
          have d1 : decide (x ≤ k.x) = false := decide_eq_false l1
          replace h := Option.bind_eq_some_iff.1 h
          obtain ⟨t, ht, h⟩ := h
          have HT := Aside0.mk ht
          have H' := Aside0.mk h
          clear h l1 ht
          go_wp2_with fail
          go_quiet (first | (go_at_call 83; with_reducible refine quiet_more (total_calls HT.out (HR.out.drewN _))))
          go_wp2
          go_roundg k1
          case measure => have := HK1.out; omega
          case rel => exact ⟨_, _, rfl, rfl, H', ⟨by have := HK1.out; omega⟩, ⟨_, rfl⟩⟩
set_option maxHeartbeats 1600000 in
set_option maxRecDepth 100000 in
theorem at_calls {n : Nat} {H : KH} {g b : Nat} {i r : Int} {w : World} (h : atH n H b i = some r) (hr : Rep w H) (hg : w.cell? ⟨g, 0, none⟩ = some (.pointer (some ⟨b, 0, none⟩))) :
    Calls Try.prog 46 #[.pointer (some ⟨g, 0, none⟩), .int .i64 i] w fun e w' => e = .returned (.int .i64 r) ∧ Drawn0 w w' := by
  have HR := Aside0.mk hr
  have H' := Aside0.mk h
  clear hr h
  go_enter Try.func46, Try.ntmps46
  go_wp2
  go_loopg [1, 5] n (fun kq v1 v5 w' => ∃ (i : Int) (b : Nat), v1 = .int .i64 i ∧ v5 = .pointer (some ⟨b, 0, none⟩) ∧ Aside0 (atH kq H b i = some r) ∧ Aside0 (kq ≤ n) ∧ Drawn0 w w')
  case atStart => exact ⟨i, b, rfl, rfl, H', ⟨Nat.le_refl _⟩, Drawn0.refl _⟩
  case round =>
    clear H' hg
    obtain ⟨i, b, rfl, rfl, HA, HK1, ⟨m1, rfl⟩⟩ := hrel
    cases gk with
    | zero => exact absurd HA.out (by simp [atH])
    | succ k1 =>
      have h := HA.out
      clear HA
      simp only [atH] at h
      replace h := Option.bind_eq_some_iff.1 h
      obtain ⟨k, hk, h⟩ := h
      replace h := Option.bind_eq_some_iff.1 h
      obtain ⟨t, ht, h⟩ := h
      obtain ⟨c0, c1, c2, c3, c4, c5⟩ := (HR.out b k hk).cells
      have HT := Aside0.mk ht
      clear hk ht
      by_cases l1 : i < t
      · rw [if_pos l1] at h
        have d1 : decide (i < t) = true := decide_eq_true l1
        replace h := Option.bind_eq_some_iff.1 h
        obtain ⟨c, hc, h⟩ := h
        rw [hc] at c2 HT
        replace c2 : w.cell? ⟨b, 2, none⟩ = some (.pointer (some ⟨c, 0, none⟩)) := c2
        have H' := Aside0.mk h
        clear h l1 hc
        go_wp2_with (first | (go_at_call 83; with_reducible refine (total_at HT.out (HR.out.drewN _)).mono ?_; rintro e w' ⟨rfl, rfl⟩))
        go_roundg k1
        case measure => have := HK1.out; omega
        case rel => exact ⟨_, _, rfl, rfl, H', ⟨by have := HK1.out; omega⟩, ⟨m1, rfl⟩⟩
      · rw [if_neg l1] at h
        have d1 : decide (i < t) = false := decide_eq_false l1
        by_cases l2 : i < wrap64 (t + k.often)
        · rw [if_pos l2] at h
          have d2 : decide (i < wrap64 (t + k.often)) = true := decide_eq_true l2
          obtain rfl := Option.some.inj h
          clear h l1 l2
          go_wp2_with (first | (go_at_call 83; with_reducible refine (total_calls HT.out (HR.out.drewN _)).mono ?_; rintro e w' ⟨rfl, rfl⟩))
          go_ret
          exact ⟨rfl, ⟨m1, rfl⟩⟩
        · rw [if_neg l2] at h
          have d2 : decide (i < wrap64 (t + k.often)) = false := decide_eq_false l2
          replace h := Option.bind_eq_some_iff.1 h
          obtain ⟨c, hc, h⟩ := h
          rw [hc] at c3
          replace c3 : w.cell? ⟨b, 3, none⟩ = some (.pointer (some ⟨c, 0, none⟩)) := c3
          have H' := Aside0.mk h
          clear h l1 l2 hc
          go_wp2_with (first | (go_at_call 83; with_reducible refine (total_calls HT.out (HR.out.drewN _)).mono ?_; rintro e w' ⟨rfl, rfl⟩))
          go_roundg k1
          case measure => have := HK1.out; omega
          case rel => exact ⟨_, _, rfl, rfl, H', ⟨by have := HK1.out; omega⟩, ⟨m1, rfl⟩⟩
set_option maxHeartbeats 1600000 in
set_option maxRecDepth 100000 in
theorem height_calls : ∀ (n : Nat) {H : KH} {p : Option Nat} {r : Int} {w : World}, heightH n H p = some r → Rep w H →
    Calls Try.prog 57 #[.pointer (pa p)] w fun e w' => e = .returned (.int .i64 r) ∧ Drawn0 w w' := by
  intro n
  induction n with
  | zero => intro H p r w h; simp [heightH] at h
  | succ n ih =>
    intro H p r w h hr
    cases p with
    | none =>
      simp only [heightH, Option.some.injEq] at h
      subst h
      show Calls Try.prog 57 #[.pointer none] w _
      go_enter Try.func57, Try.ntmps57
      go_wp2
      go_ret
      exact ⟨rfl, Drawn0.refl _⟩
    | some b =>
      simp only [heightH] at h
      replace h := Option.bind_eq_some_iff.1 h
      obtain ⟨k, hk, h⟩ := h
      replace h := Option.bind_eq_some_iff.1 h
      obtain ⟨a, ha, h⟩ := h
      replace h := Option.bind_eq_some_iff.1 h
      obtain ⟨c, hc, h⟩ := h
      obtain rfl := Option.some.inj h
      obtain ⟨c0, c1, c2, c3, c4, c5⟩ := (hr b k hk).cells
      have IH := Aside0.mk @ih
      have HA := Aside0.mk ha
      have HC := Aside0.mk hc
      have HR := Aside0.mk hr
      clear ih hk ha hc h hr
      show Calls Try.prog 57 #[.pointer (some ⟨b, 0, none⟩)] w _
      go_enter Try.func57, Try.ntmps57
      go_wp2_with fail
      go_quiet (first | (go_at_call 57; with_reducible refine quiet_drawn (IH.out HA.out (HR.out.drewN _))) | (go_at_call 57; with_reducible refine quiet_drawn (IH.out HC.out (HR.out.drewN _))))
      go_wp2
      all_goals
        go_ret
        refine ⟨?_, ⟨_, rfl⟩⟩
        first
          | (rw [show mx a c = c from if_pos (by assumption)]; rfl)
          | (rw [show mx a c = a from if_neg (by omega)]; rfl)
end Go.Proofs.Ytlglopainaploaa.Tal
