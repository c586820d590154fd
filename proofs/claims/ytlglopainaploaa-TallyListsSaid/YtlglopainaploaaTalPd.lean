/- A new tally. A tally of values: foolscaplaw20.of. What a tally's numbers are: a list, whatever the tree. What a tally holds, as a list of values: plain words. A value is put in; how often it is there: over lists of values. What a tally tells, over lists of values; a number, a fault, a truth, a blank less. A value less, over lists of values (no text). The document's examples: foolscaplaw20.lives. -/
import Derived.Test.YtlglopainaploaaTalPb
import Derived.Outline
import Derived.Test.YtlglopainaploaaTalN
import Derived.Test.YtlglopainaploaaTalPc
import Derived.Test.YtlglopainaploaaWideV16
import Derived.Test.YtlglopainaploaaTalPe
import Derived.Test.YtlglopainaploaaTalR
import Derived.Test.YtlglopainaploaaPLx1
import Derived.StillTailTactics
/-! A new tally. -/
namespace Go.Proofs.Ytlglopainaploaa.Tal
open Go.RowKit Go.Proofs.YtlglopainaploaaW.PrintWords Go.Proofs.YtlglopainaploaaW.PrintLast Go.Proofs.YtlglopainaploaaW.PrintMore
open Go.Proofs.Ytlglopainaploaa.PL
set_option linter.unusedVariables false
set_option linter.unusedSimpArgs false

/-- A tally without values, its blocks from g on. -/
def TS.new (g : Nat) : TS := ⟨g, g + 1, 0, none, fun _ => none, 0, 0, .map [], fun _ => 0, fun _ => 0, fun _ => 0, 0⟩
theorem TRep.new (w : World) : TRep (((w.alloc (.cells #[.pointer none] 80)).alloc (.map #[] 0)).alloc (.cells (TS.new w.heap.size).arr 35)) (w.heap.size + 2) (TS.new w.heap.size) := by
  have s1 : (w.alloc (.cells #[.pointer none] 80)).heap.size = w.heap.size + 1 := by simp
  have s2 : ((w.alloc (.cells #[.pointer none] 80)).alloc (.map #[] 0)).heap.size = w.heap.size + 2 := by simp
  refine ⟨?_, ?_, ?_, fun b k hb => by cases hb⟩
  · have := blk_alloc_new ((w.alloc (.cells #[.pointer none] 80)).alloc (.map #[] 0)) (.cells (TS.new w.heap.size).arr 35)
    rw [s2] at this
    exact this
  · show (((w.alloc _).alloc _).alloc _).heap[w.heap.size]? = _
    rw [Below.heap_alloc _ _ _ (by rw [s2]; omega), Below.heap_alloc _ _ _ (by rw [s1]; omega)]
    exact blk_alloc_new _ _
  · have h := World.ownsMap_made (H := Unit) (w.alloc (.cells #[.pointer none] 80)) Try.prog 9 (plainElem Try.prog 3)
    rw [s1] at h
    obtain ⟨es, cl, q, r⟩ := h
    exact ⟨es, cl, (Below.heap_alloc _ _ _ (by rw [s2]; show w.heap.size + 1 < _; omega)).trans q, r⟩
set_option maxHeartbeats 1600000 in
set_option maxRecDepth 100000 in
theorem new_calls (w : World) : Calls Try.prog 23 #[] w fun e w' => e = .returned (.pointer (some ⟨w.heap.size + 2, 0, none⟩)) ∧ TRep w' (w.heap.size + 2) (TS.new w.heap.size) ∧ Below w.heap.size w w' ∧ w'.heap.size = w.heap.size + 3 := by
  have hmm := @run_makeMap Try.prog
  go_enter Try.func23, Try.ntmps23
  go_wp2
  go_ret
  refine ⟨rfl, TRep.new w, below_alloc (below_alloc (below_alloc (Below.refl _ _) _) _) _, by simp⟩
end Go.Proofs.Ytlglopainaploaa.Tal
/-! A tally of values: foolscaplaw20.of. -/
namespace Go.Proofs.Ytlglopainaploaa.Tal
open Go.RowKit Go.Proofs.YtlglopainaploaaW.PrintWords Go.Proofs.YtlglopainaploaaW.PrintLast Go.Proofs.YtlglopainaploaaW.PrintMore
open Go.Proofs.Ytlglopainaploaa.PL
set_option linter.unusedVariables false
set_option linter.unusedSimpArgs false

/-- A value's five cells. -/
abbrev Va := Int × Int × ByteArray × Bool × Int
abbrev Va.k (x : Va) : Int := x.1
abbrev Va.n (x : Va) : Int := x.2.1
abbrev Va.s (x : Va) : ByteArray := x.2.2.1
abbrev Va.b (x : Va) : Bool := x.2.2.2.1
abbrev Va.c (x : Va) : Int := x.2.2.2.2
def Va.v (x : Va) : Value := .agg #[.int .i64 x.k, .int .i64 x.n, .string x.s, .bool x.b, .int .i64 x.c]
/-- A tally that is made here. -/
structure Mine (w : World) (t : Nat) (s : TS) (w' : World) : Prop where
  rep : TRep w' t s
  below : Below w.heap.size w w'
  dom : ∀ b, domT t s b → w.heap.size ≤ b
theorem Mine.step {w w1 w2 : World} {t : Nat} {s : TS} (h : Mine w t s w1) (k : Below w1.heap.size w1 w2) : Mine w t s w2 :=
  ⟨h.rep.below k, below_step2 h.below k, h.dom⟩
theorem Mine.tw {w w1 w2 : World} {t : Nat} {s s' : TS} (h : Mine w t s w1) (k : TW w1 t s w2 s') : Mine w t s' w2 :=
  ⟨k.rep, h.below.trans (k.chg.below h.below.size (fun b hb hd => absurd (h.dom b hd) (by omega))), fun b hb => (k.dom b hb).elim (h.dom b) (fun q => Nat.le_trans h.below.size q)⟩
theorem Mine.front {w w0 w1 : World} {t : Nat} {s : TS} (h : Mine w0 t s w1) (k : Below w.heap.size w w0) : Mine w t s w1 :=
  ⟨h.rep, below_step2 k h.below, fun b hb => Nat.le_trans k.size (h.dom b hb)⟩
theorem new_mine (w : World) : Calls Try.prog 23 #[] w fun e w' => e = .returned (.pointer (some ⟨w.heap.size + 2, 0, none⟩)) ∧ Mine w (w.heap.size + 2) (TS.new w.heap.size) w' :=
  (new_calls w).mono fun e w' ⟨h1, h2, h3, _⟩ => ⟨h1, h2, h3, fun b hb => by
    rcases hb with rfl | rfl | rfl | hb
    · omega
    · exact Nat.le_refl _
    · show w.heap.size ≤ w.heap.size + 1; omega
    · exact absurd hb (by unfold Tal.dom; simp [TS.new])⟩
/-- Values in a row. -/
def VaAt (w : World) (g i : Nat) (x : Va) : Prop := w.cell? ⟨g, i * 5, none⟩ = some (.int .i64 x.k) ∧ w.cell? ⟨g, i * 5 + 1, none⟩ = some (.int .i64 x.n) ∧ w.cell? ⟨g, i * 5 + 2, none⟩ = some (.string x.s) ∧ w.cell? ⟨g, i * 5 + 3, none⟩ = some (.bool x.b) ∧ w.cell? ⟨g, i * 5 + 4, none⟩ = some (.int .i64 x.c)
set_option maxHeartbeats 3200000 in
set_option maxRecDepth 100000 in
theorem of_calls {w : World} {g len cap : Nat} {vs : Nat → Va} {I : Nat → TS → Prop} (hlen : len < 1000000) (hg : g < w.heap.size) (hv : ∀ i, i < len → VaAt w g i (vs i)) (h0 : ∀ g, I 0 (TS.new g))
    (hs : ∀ i, i < len → ∀ w1 t s, TRep w1 t s → I i s → Calls Try.prog 14 #[.pointer (some ⟨t, 0, none⟩), (vs i).v] w1 fun e w' => e = .returned (.int .i64 0) ∧ ∃ s', TW w1 t s w' s' ∧ I (i + 1) s') :
    Calls Try.prog 58 #[.slice (some ⟨g, 0, none⟩) len cap] w fun e w' => ∃ t s, e = .returned (.pointer (some ⟨t, 0, none⟩)) ∧ Mine w t s w' ∧ I len s := by
  have HV := Aside0.mk hv
  have H0 := Aside0.mk h0
  have HS := Aside0.mk hs
  have HL := Aside0.mk hlen
  have HG := Aside0.mk hg
  clear hv h0 hs hlen hg
  go_enter Try.func58, Try.ntmps58
  go_wp2_with (first | (go_at_call 23; with_reducible refine (new_calls _).mono ?_; rintro e w1 ⟨rfl, ht, hb, hz⟩; have T1 := Aside0.mk ht; have B1 := Aside0.mk hb; clear ht hb hz))
  have N0 : Aside0 (∀ b, domT (w.heap.size + 2) (TS.new w.heap.size) b → w.heap.size ≤ b) := ⟨fun b hb => by
    rcases hb with rfl | rfl | rfl | hb
    · omega
    · exact Nat.le_refl _
    · show w.heap.size ≤ w.heap.size + 1; omega
    · exact absurd hb (by unfold dom; simp [TS.new])⟩
  have B2 : Aside0 (∀ w', Chg (domT (w.heap.size + 2) (TS.new w.heap.size)) w1 w' → Below w.heap.size w w') := ⟨fun w' c => B1.out.trans (c.below B1.out.size (fun k hk hd => absurd (N0.out k hd) (by omega)))⟩
  go_loopg [4] len (fun kq v4 w' => ∃ i : Nat, v4 = .int .i64 (i : Int) ∧ Aside0 (i + kq = len) ∧ Aside0 (∃ s, TW w1 (w.heap.size + 2) (TS.new w.heap.size) w' s ∧ I i s))
  case atStart => exact ⟨0, rfl, ⟨Nat.zero_add _⟩, ⟨_, TW.refl T1.out, H0.out _⟩⟩
  case round =>
    obtain ⟨i, rfl, HI, HT⟩ := hrel
    obtain ⟨s, tw, is⟩ := HT.out
    have TW1 := Aside0.mk tw
    have IS := Aside0.mk is
    clear HT tw is
    cases gk with
    | zero =>
      have e : i = len := HI.out
      subst e
      have d1 : decide ((i : Int) < (i : Int)) = false := decide_eq_false (by omega)
      go_wp2
      go_ret
      exact ⟨_, s, rfl, ⟨TW1.out.rep, B2.out _ TW1.out.chg, fun b hb => (TW1.out.dom b hb).elim (N0.out b) (fun q => Nat.le_trans B1.out.size q)⟩, IS.out⟩
    | succ k1 =>
      have lt : i < len := by have := HI.out; omega
      have d1 : decide ((i : Int) < (len : Int)) = true := decide_eq_true (by omega)
      have p1 : (0 ≤ (i : Int)) = True := eq_true (by omega)
      have p2 : ((i : Int) < (len : Int)) = True := eq_true (by omega)
      have bw := B2.out _ TW1.out.chg
      obtain ⟨a0, a1, a2, a3, a4⟩ := HV.out i lt
      replace a0 := (bw.cell HG.out).trans a0
      replace a1 := (bw.cell HG.out).trans a1
      replace a2 := (bw.cell HG.out).trans a2
      replace a3 := (bw.cell HG.out).trans a3
      replace a4 := (bw.cell HG.out).trans a4
      have LT := Aside0.mk lt
      have wi : wrap64 ((i : Int) + 1) = ((i + 1 : Nat) : Int) := by have := HL.out; unfold wrap64; omega
      have WI := Aside0.mk wi
      clear bw lt wi
      go_wp2_with (first | (go_at_call 14; refine (HS.out i LT.out _ _ s TW1.out.rep IS.out).mono ?_; rintro e w2 ⟨rfl, hw⟩; have W2 := Aside0.mk hw; clear hw))
      go_roundg k1
      case measure => omega
      case rel => exact ⟨i + 1, by rw [WI.out], ⟨by have := HI.out; omega⟩, ⟨by obtain ⟨s', h1, h2⟩ := W2.out; exact ⟨s', TW1.out.trans h1, h2⟩⟩⟩
end Go.Proofs.Ytlglopainaploaa.Tal
/-! What a tally's numbers are: a list, whatever the tree. -/
namespace Go.Proofs.Ytlglopainaploaa.Tal
open Go.RowKit Go.Proofs.YtlglopainaploaaW.PrintWords Go.Proofs.YtlglopainaploaaW.PrintLast Go.Proofs.YtlglopainaploaaW.PrintMore
open Go.Proofs.Ytlglopainaploaa.PL Go.Proofs.Ytlglopainaploaa.Pure
set_option linter.unusedVariables false
set_option linter.unusedSimpArgs false

def sumL : List Int → Int
  | [] => 0
  | x :: xs => x + sumL xs
theorem sumL_bd {l : List Int} (h : ∀ x ∈ l, FitsI x) : -(1000000000000000000 * (l.length : Int)) ≤ sumL l ∧ sumL l ≤ 1000000000000000000 * (l.length : Int) := by
  induction l with
  | nil => simp [sumL]
  | cons x xs ih =>
    obtain ⟨h1, h2⟩ := ih (fun y hy => h y (List.mem_cons_of_mem _ hy))
    obtain ⟨f1, f2⟩ := h x List.mem_cons_self
    simp only [sumL, List.length_cons]
    omega
theorem sumL_perm {a b : List Int} (h : a.Perm b) : sumL a = sumL b := by
  induction h with
  | nil => rfl
  | cons x _ ih => simp only [sumL, ih]
  | swap x y l => simp only [sumL]; omega
  | trans _ _ h1 h2 => rw [h1, h2]
/-- The numbers of a tally are L. -/
structure Nums (s : TS) (L : List Int) : Prop where
  tree : ∃ T, In s.H T ∧ Ok T ∧ s.p = T.root ∧ (flatE T.ent).Perm L ∧ Bal T
  fits : ∀ x ∈ L, FitsI x
  hi : s.hi = sumL L / 1000000000000000000
  lo : s.lo = sumL L % 1000000000000000000
  len : L.length ≤ 4096
theorem Nums.new (g : Nat) : Nums (TS.new g) [] := ⟨⟨.nil, trivial, ⟨List.nodup_nil, trivial, List.Pairwise.nil, by decide⟩, rfl, .refl _, trivial⟩, fun _ h => (by cases h), rfl, rfl, by decide⟩
theorem In.dom {H : KH} : ∀ {t : T3}, In H t → ∀ c ∈ t.blks, Tal.dom H c
  | .nil, _, _, h => by cases h
  | .node b x o l r, hi, c, h => by
    simp only [T3.blks, List.mem_cons, List.mem_append] at h
    rcases h with rfl | h | h
    · exact dom_of hi.1
    · exact In.dom hi.2.1 c h
    · exact In.dom hi.2.2 c h
theorem sumL_in {l : List Int} (h : ∀ x ∈ l, FitsI x) (n : l.length ≤ 4097) : inR (sumL l) := by
  have := sumL_bd h
  unfold inR; omega
/-- A number more. -/
theorem add_nums {w : World} {t : Nat} {s : TS} {L : List Int} {n : Int} (h : TRep w t s) (hn : Nums s L) (f : FitsI n) (hl : L.length < 4096) (ha : s.all < 4096) :
    Calls Try.prog 14 #[.pointer (some ⟨t, 0, none⟩), .agg #[.int .i64 1, .int .i64 n, .string ⟨#[]⟩, .bool false, .int .i64 0]] w fun e w' => e = .returned (.int .i64 0) ∧
      ∃ s', TW w t s w' s' ∧ Nums s' (n :: L) ∧ s'.all = wrap64 (s.all + 1) ∧ s'.ks = up s.ks 1 (wrap64 (s.ks 1 + 1)) ∧ s'.tr = s.tr ∧ s'.fs = s.fs ∧ s'.D = s.D ∧ s'.n = s.n := by
  obtain ⟨⟨T, hi, ok, hp, hf, hbal⟩, fits, h1, h2, len⟩ := hn
  have pe := (pos_ent T).1 ok.pos
  have fl := flatE_len pe
  rw [← T3.tot_ent, hf.length_eq] at fl
  have tl := ok.pos.le
  have fresh : ∀ nb, w.heap.size ≤ nb → nb ∉ T.blks := fun nb hb hc => by
    obtain ⟨k, hk⟩ := dom_get (hi.dom nb hc)
    have := (h.rep nb k hk).lt
    omega
  have run : ∀ nb, w.heap.size ≤ nb → ∃ u H', withH 5000 nb s.H s.p n = some (u, H') := fun nb hb => by
    obtain ⟨H', g, e, _⟩ := with_tree (nb := nb) (x := n) T 5000 hi ok (fresh nb hb) (by omega) (by omega)
    rw [hp]
    exact ⟨g, H', e⟩
  have fits' : ∀ x ∈ n :: L, FitsI x := fun x hx => by
    rcases List.mem_cons.1 hx with rfl | hx
    · exact f
    · exact fits x hx
  have r0 := sumL_in fits (by omega)
  have r1 := sumL_in fits' (by simp; omega)
  have es : sumL (n :: L) = sumL L + n := by simp only [sumL]; omega
  rw [es] at r1
  have ws := add_in r0 f r1
  rw [← h1, ← h2] at ws
  have hv : value_Check.f 1 n ⟨#[]⟩ false 0 = some 0 := by
    have a : decide (-1000000000000000000 ≤ n) = true := decide_eq_true f.1
    have b : decide (n ≤ 1000000000000000000) = true := decide_eq_true f.2
    simp [value_Check.f, value_Check.fit, value_Check.bare, a, b]
  refine (add_num (f := 5000) h hv ha run ws).mono ?_
  rintro e w' ⟨rfl, nb, u, H', hb, hw, tw⟩
  obtain ⟨H2, g, e2, i2, rt, _⟩ := with_tree (nb := nb) (x := n) T 5000 hi ok (fresh nb hb) (by omega) (by omega)
  rw [hp, e2] at hw
  obtain ⟨rfl, rfl⟩ := Prod.mk.inj (Option.some.inj hw)
  have okw := ok.withT (fresh nb hb) n (by omega)
  refine ⟨rfl, _, tw, ⟨⟨withT nb n T, i2, okw, rt.symm, ?_, hbal.withT ok⟩, fits', ?_, ?_, by simp; omega⟩, rfl, rfl, rfl, rfl, rfl, rfl⟩
  · rw [withT_ent nb n T ok.ord]
    exact (withE_flat nb n pe).trans (hf.cons n)
  · rw [es]
  · rw [es]
end Go.Proofs.Ytlglopainaploaa.Tal
/-! What a tally holds, as a list of values: plain words. -/
namespace Go.Proofs.Ytlglopainaploaa.Tal
open Go.RowKit Go.Proofs.YtlglopainaploaaW.PrintWords Go.Proofs.YtlglopainaploaaW.PrintLast Go.Proofs.YtlglopainaploaaW.PrintMore
open Go.Proofs.Ytlglopainaploaa.PL Go.Proofs.Ytlglopainaploaa.Pure
set_option linter.unusedVariables false
set_option linter.unusedSimpArgs false

abbrev vBlank : Va := (0, 0, ⟨#[]⟩, false, 0)
abbrev vNum (n : Int) : Va := (1, n, ⟨#[]⟩, false, 0)
abbrev vText (s : ByteArray) : Va := (2, 0, s, false, 0)
abbrev vBool (b : Bool) : Va := (3, 0, ⟨#[]⟩, b, 0)
abbrev vFault (c : Int) : Va := (4, 0, ⟨#[]⟩, false, c)
/-- What Check tells. -/
def Va.chk (x : Va) : Option Int := value_Check.f x.k x.n x.s x.b x.c
def Va.ok (x : Va) : Prop := x.chk = some 0
theorem Va.chk_cases (x : Va) : x.chk = some 0 ∨ x.chk = some 2 := by
  unfold Va.chk value_Check.f
  split
  · exact .inl rfl
  · exact .inr rfl
theorem Va.ok_cases {x : Va} (h : x.ok) : x = vBlank ∨ (∃ n, FitsI n ∧ x = vNum n) ∨ (∃ s, (s.size : Int) ≤ 255 ∧ x = vText s) ∨ (∃ b, x = vBool b) ∨ ∃ c : Nat, 1 ≤ c ∧ c < 8 ∧ x = vFault c := by
  obtain ⟨k, n, s, b, c⟩ := x
  simp only [Va.ok, Va.chk, value_Check.f, Va.k, Va.n, Va.s, Va.b, Va.c] at h
  have hh : (value_Check.fit k n s c && value_Check.bare k n s b c) = true := by
    by_cases q : (value_Check.fit k n s c && value_Check.bare k n s b c) = true
    · exact q
    · rw [if_neg q] at h; cases h
  clear h
  rw [Bool.and_eq_true] at hh
  obtain ⟨hf, hb⟩ := hh
  simp only [value_Check.bare, Bool.and_eq_true, Bool.or_eq_true, decide_eq_true_eq, List.isEmpty_iff, Bool.not_eq_true'] at hb
  obtain ⟨⟨⟨b1, b2⟩, b3⟩, b4⟩ := hb
  unfold value_Check.fit at hf
  by_cases k0 : k = 0
  · subst k0
    have e1 : n = 0 := by omega
    have e2 : s = ⟨#[]⟩ := value_Check.empty (b2.resolve_left (by decide))
    have e3 : b = false := b3.resolve_left (by decide)
    have e4 : c = 0 := by omega
    subst e1 e2 e3 e4
    exact .inl rfl
  rw [if_neg k0] at hf
  by_cases k1 : k = 1
  · subst k1
    rw [if_pos rfl, Bool.and_eq_true, decide_eq_true_eq, decide_eq_true_eq] at hf
    have e2 : s = ⟨#[]⟩ := value_Check.empty (b2.resolve_left (by decide))
    have e3 : b = false := b3.resolve_left (by decide)
    have e4 : c = 0 := by omega
    subst e2 e3 e4
    exact .inr (.inl ⟨n, hf, rfl⟩)
  rw [if_neg k1] at hf
  by_cases k2 : k = 2
  · subst k2
    rw [if_pos rfl, decide_eq_true_eq] at hf
    have e1 : n = 0 := by omega
    have e3 : b = false := b3.resolve_left (by decide)
    have e4 : c = 0 := by omega
    subst e1 e3 e4
    exact .inr (.inr (.inl ⟨s, hf, rfl⟩))
  rw [if_neg k2] at hf
  by_cases k3 : k = 3
  · subst k3
    have e1 : n = 0 := by omega
    have e2 : s = ⟨#[]⟩ := value_Check.empty (b2.resolve_left (by decide))
    have e4 : c = 0 := by omega
    subst e1 e2 e4
    exact .inr (.inr (.inr (.inl ⟨b, rfl⟩)))
  rw [if_neg k3] at hf
  by_cases k4 : k = 4
  · subst k4
    rw [if_pos rfl, Bool.and_eq_true, decide_eq_true_eq, decide_eq_true_eq] at hf
    have e1 : n = 0 := by omega
    have e2 : s = ⟨#[]⟩ := value_Check.empty (b2.resolve_left (by decide))
    have e3 : b = false := b3.resolve_left (by decide)
    subst e1 e2 e3
    refine .inr (.inr (.inr (.inr ⟨c.toNat, by omega, by omega, ?_⟩)))
    rw [show ((c.toNat : Nat) : Int) = c by omega]
  rw [if_neg k4] at hf
  cases hf
/-- A value as it is held: texts folded. -/
def Va.held (x : Va) : Va := (x.k, x.n, value_Fold.s x.s, x.b, x.c)
theorem fold_empty : value_Fold.s ⟨#[]⟩ = ⟨#[]⟩ := by decide +kernel
theorem held_blank : Va.held vBlank = vBlank := by unfold Va.held; simp only [Va.s, fold_empty]
theorem held_num (n : Int) : Va.held (vNum n) = vNum n := by unfold Va.held; simp only [Va.s, fold_empty]
theorem held_bool (b : Bool) : Va.held (vBool b) = vBool b := by unfold Va.held; simp only [Va.s, fold_empty]
theorem held_fault (c : Int) : Va.held (vFault c) = vFault c := by unfold Va.held; simp only [Va.s, fold_empty]
theorem held_text (s : ByteArray) : Va.held (vText s) = vText (value_Fold.s s) := rfl
/-- How often a value is among others; how many of a kind there are; the numbers. -/
def cnt (L : List Va) (a : Va) : Int := (L.countP fun x => decide (x = a) : Nat)
def kn (L : List Va) (k : Int) : Int := (L.countP fun x => decide (x.1 = k) : Nat)
def numsOf : List Va → List Int
  | [] => []
  | x :: xs => if x.1 = 1 then x.2.1 :: numsOf xs else numsOf xs
theorem cnt_cons (a : Va) (L : List Va) : cnt (a :: L) = fun x => cnt L x + if a = x then 1 else 0 := by
  funext x
  unfold cnt
  rw [List.countP_cons]
  by_cases c : a = x
  · rw [if_pos c, if_pos (decide_eq_true c)]; omega
  · rw [if_neg c, if_neg (by simpa using c)]; omega
theorem kn_cons (a : Va) (L : List Va) : kn (a :: L) = fun k => kn L k + if a.1 = k then 1 else 0 := by
  funext k
  unfold kn
  rw [List.countP_cons]
  by_cases c : a.1 = k
  · rw [if_pos c, if_pos (decide_eq_true c)]; omega
  · rw [if_neg c, if_neg (by simpa using c)]; omega
theorem cnt_perm {L M : List Va} (h : L.Perm M) : cnt L = cnt M := by funext a; unfold cnt; rw [h.countP_eq]
theorem kn_perm {L M : List Va} (h : L.Perm M) : kn L = kn M := by funext a; unfold kn; rw [h.countP_eq]
theorem numsOf_perm {L M : List Va} (h : L.Perm M) : (numsOf L).Perm (numsOf M) := by
  induction h with
  | nil => exact .refl _
  | cons x _ ih =>
    simp only [numsOf]
    split
    · exact ih.cons _
    · exact ih
  | swap x y l =>
    simp only [numsOf]
    split <;> split
    · exact .swap _ _ _
    · exact .refl _
    · exact .refl _
    · exact .refl _
  | trans _ _ h1 h2 => exact h1.trans h2
theorem cnt_bd (L : List Va) (a : Va) : 0 ≤ cnt L a ∧ cnt L a ≤ L.length := by
  unfold cnt
  have := List.countP_le_length (p := fun x => decide (x = a)) (l := L)
  omega
theorem kn_bd (L : List Va) (a : Int) : 0 ≤ kn L a ∧ kn L a ≤ L.length := by
  unfold kn
  have := List.countP_le_length (p := fun x : Va => decide (x.1 = a)) (l := L)
  omega
theorem numsOf_len (L : List Va) : ((numsOf L).length : Int) = kn L 1 := by
  induction L with
  | nil => rfl
  | cons x xs ih =>
    rw [kn_cons]
    simp only [numsOf]
    split
    · simp only [List.length_cons]; omega
    · omega
theorem cnt_pos {L : List Va} {a : Va} : 0 < cnt L a ↔ a ∈ L := by
  unfold cnt
  constructor
  · intro h
    obtain ⟨x, hx, e⟩ := List.countP_pos_iff.1 (by omega : 0 < L.countP fun x => decide (x = a))
    rwa [← of_decide_eq_true e]
  · intro h
    have : 0 < L.countP (fun x => decide (x = a)) := List.countP_pos_iff.2 ⟨a, h, decide_eq_true rfl⟩
    omega
theorem mem_perm {L : List Va} {a : Va} (h : a ∈ L) : ∃ M, L.Perm (a :: M) := by
  obtain ⟨A, B, rfl⟩ := List.append_of_mem h
  exact ⟨A ++ B, List.perm_middle⟩
/-- What a tally's counts tell. -/
structure Facts (s : TS) (A : Int) (K : Int → Int) (C : Va → Int) : Prop where
  all : s.all = A
  ks : ∀ k : Nat, k < 5 → s.ks k = K k
  tr0 : s.tr 0 = C (vBool false)
  tr1 : s.tr 1 = C (vBool true)
  fs : ∀ c : Nat, c < 8 → s.fs c = C (vFault c)
  tx : ∀ f, s.D.atKey (keyS f) (.lit (.int .i64 0)) = .lit (.int .i64 (C (vText f)))
def Heldv (x : Va) : Prop := ∃ y : Va, y.ok ∧ x = y.held
structure TOk (s : TS) (N : Nat) (L : List Va) : Prop where
  nums : Nums s (numsOf L)
  facts : Facts s L.length (kn L) (cnt L)
  right : ∀ x ∈ L, Heldv x
  n : s.n ≤ N
  len : L.length ≤ 4096
theorem Nums.perm {s : TS} {L M : List Int} (h : Nums s L) (p : L.Perm M) : Nums s M := by
  obtain ⟨⟨T, h1, h2, h3, h4, h5⟩, fits, hi, lo, len⟩ := h
  exact ⟨⟨T, h1, h2, h3, h4.trans p, h5⟩, fun x hx => fits x (p.mem_iff.2 hx), by rw [← sumL_perm p]; exact hi, by rw [← sumL_perm p]; exact lo, by rw [← p.length_eq]; exact len⟩
theorem Nums.same {s s' : TS} {L : List Int} (h : Nums s L) (e1 : s'.H = s.H) (e2 : s'.p = s.p) (e3 : s'.hi = s.hi) (e4 : s'.lo = s.lo) : Nums s' L := by
  obtain ⟨⟨T, h1, h2, h3, h4, h5⟩, fits, hi, lo, len⟩ := h
  exact ⟨⟨T, by rw [e1]; exact h1, h2, by rw [e2]; exact h3, h4, h5⟩, fits, by rw [e3]; exact hi, by rw [e4]; exact lo, len⟩
theorem TOk.perm {s : TS} {N : Nat} {L M : List Va} (h : TOk s N L) (p : L.Perm M) : TOk s N M :=
  ⟨h.nums.perm (numsOf_perm p), by rw [← p.length_eq, ← kn_perm p, ← cnt_perm p]; exact h.facts, fun x hx => h.right x (p.mem_iff.2 hx), h.n, by rw [← p.length_eq]; exact h.len⟩
theorem TOk.mono {s : TS} {N M : Nat} {L : List Va} (h : TOk s N L) (e : N ≤ M) : TOk s M L := ⟨h.nums, h.facts, h.right, Nat.le_trans h.n e, h.len⟩
theorem Facts.step {s s' : TS} {A d : Int} {K : Int → Int} {C : Va → Int} {a : Va} (h : Facts s A K C) (e1 : s'.all = s.all + d) (e2 : ∀ k : Nat, k < 5 → s'.ks k = s.ks k + if a.1 = k then d else 0)
    (e3 : s'.tr 0 = s.tr 0 + if a = vBool false then d else 0) (e4 : s'.tr 1 = s.tr 1 + if a = vBool true then d else 0) (e5 : ∀ c : Nat, c < 8 → s'.fs c = s.fs c + if a = vFault c then d else 0)
    (e6 : ∀ f, s'.D.atKey (keyS f) (.lit (.int .i64 0)) = .lit (.int .i64 (C (vText f) + if a = vText f then d else 0))) :
    Facts s' (A + d) (fun k => K k + if a.1 = k then d else 0) (fun x => C x + if a = x then d else 0) :=
  ⟨by rw [e1, h.all], fun k hk => by rw [e2 k hk, h.ks k hk], by rw [e3, h.tr0], by rw [e4, h.tr1], fun c hc => by rw [e5 c hc, h.fs c hc], e6⟩
theorem Facts.back {s : TS} {M : List Va} {a : Va} (h : Facts s ((a :: M).length + -1) (fun k => kn (a :: M) k + if a.1 = k then -1 else 0) (fun x => cnt (a :: M) x + if a = x then -1 else 0)) : Facts s M.length (kn M) (cnt M) := by
  have e1 : (((a :: M).length : Nat) : Int) + -1 = (M.length : Int) := by simp only [List.length_cons]; omega
  have e2 : (fun k => kn (a :: M) k + if a.1 = k then -1 else 0) = kn M := by
    funext k
    rw [kn_cons]
    dsimp only
    split <;> omega
  have e3 : (fun x => cnt (a :: M) x + if a = x then -1 else 0) = cnt M := by
    funext k
    rw [cnt_cons]
    dsimp only
    split <;> omega
  rwa [e1, e2, e3] at h
theorem Facts.forth {s : TS} {L : List Va} {a : Va} (h : Facts s (L.length + 1) (fun k => kn L k + if a.1 = k then 1 else 0) (fun x => cnt L x + if a = x then 1 else 0)) : Facts s (a :: L).length (kn (a :: L)) (cnt (a :: L)) := by
  rw [kn_cons, cnt_cons]
  have e1 : (((a :: L).length : Nat) : Int) = L.length + 1 := by simp only [List.length_cons]; omega
  rw [e1]
  exact h
theorem Facts.new (g : Nat) : Facts (TS.new g) 0 (kn []) (cnt []) := ⟨rfl, fun _ _ => rfl, rfl, rfl, fun _ _ => rfl, fun f => rfl⟩
theorem TOk.new (g N : Nat) : TOk (TS.new g) N [] := ⟨Nums.new g, Facts.new g, fun _ h => (by cases h), Nat.zero_le _, by decide⟩
/-- Sorted. -/
def ins (x : Int) : List Int → List Int
  | [] => [x]
  | y :: ys => if x ≤ y then x :: y :: ys else y :: ins x ys
def srt : List Int → List Int
  | [] => []
  | x :: xs => ins x (srt xs)
theorem ins_perm (x : Int) : ∀ l, (ins x l).Perm (x :: l)
  | [] => .refl _
  | y :: ys => by
    simp only [ins]
    split
    · exact .refl _
    · exact ((ins_perm x ys).cons y).trans (.swap _ _ _)
theorem srt_perm : ∀ l, (srt l).Perm l
  | [] => .refl _
  | x :: xs => (ins_perm x _).trans ((srt_perm xs).cons x)
theorem ins_sorted (x : Int) : ∀ {l : List Int}, l.Pairwise (· ≤ ·) → (ins x l).Pairwise (· ≤ ·)
  | [], _ => List.pairwise_singleton _ _
  | y :: ys, h => by
    obtain ⟨h1, h2⟩ := List.pairwise_cons.1 h
    simp only [ins]
    split
    · rename_i c
      refine List.pairwise_cons.2 ⟨fun z hz => ?_, h⟩
      rcases List.mem_cons.1 hz with rfl | hz
      · exact c
      · exact Int.le_trans c (h1 z hz)
    · rename_i c
      refine List.pairwise_cons.2 ⟨fun z hz => ?_, ins_sorted x h2⟩
      rcases List.mem_cons.1 ((ins_perm x ys).mem_iff.1 hz) with rfl | hz
      · omega
      · exact h1 z hz
theorem srt_sorted : ∀ l, (srt l).Pairwise (· ≤ ·)
  | [] => List.Pairwise.nil
  | x :: xs => ins_sorted x (srt_sorted xs)
theorem srt_one {s l : List Int} (h : s.Pairwise (· ≤ ·)) (p : s.Perm l) : s = srt l :=
  List.Perm.eq_of_pairwise (le := fun a b : Int => a ≤ b) (fun a b _ _ h1 h2 => Int.le_antisymm h1 h2) h (srt_sorted l) (p.trans (srt_perm l).symm)
theorem srt_congr {l m : List Int} (p : l.Perm m) : srt l = srt m := srt_one (srt_sorted l) ((srt_perm l).trans p)
end Go.Proofs.Ytlglopainaploaa.Tal
/-! A value is put in; how often it is there: over lists of values. -/
namespace Go.Proofs.Ytlglopainaploaa.Tal
open Go.RowKit Go.Proofs.YtlglopainaploaaW.PrintWords Go.Proofs.YtlglopainaploaaW.PrintLast Go.Proofs.YtlglopainaploaaW.PrintMore
open Go.Proofs.Ytlglopainaploaa.PL Go.Proofs.Ytlglopainaploaa.Pure
set_option linter.unusedVariables false
set_option linter.unusedSimpArgs false

theorem up_at (f : Nat → Int) (i : Nat) (d : Int) (j : Nat) : up f i (f i + d) j = f j + if j = i then d else 0 := by
  unfold up
  by_cases c : j = i
  · rw [if_pos c, if_pos c, c]
  · rw [if_neg c, if_neg c]; omega
theorem keyS_inj {f g : ByteArray} (h : keyS f = keyS g) : f = g := by
  unfold keyS at h
  injection h with h
  have h2 : f.data = g.data := Array.toList_inj.1 h
  cases f
  cases g
  cases h2
  rfl
theorem tx_put {s : TS} {w : World} {t : Nat} (h : TRep w t s) {C : Va → Int} (tx : ∀ f, s.D.atKey (keyS f) (.lit (.int .i64 0)) = .lit (.int .i64 (C (vText f)))) (g : ByteArray) (d : Int) (f : ByteArray) :
    (s.D.put (keyS g) (.lit (.int .i64 (C (vText g) + d)))).atKey (keyS f) (.lit (.int .i64 0)) = .lit (.int .i64 (C (vText f) + if (vText g) = vText f then d else 0)) := by
  by_cases c : g = f
  · subst c
    rw [if_pos rfl]
    exact Go.Maps.atKey_put_same (k := keyS g) h.mp.isMap (by exact trivial) _ _
  · rw [if_neg (fun e => c (by injection e with _ e; injection e with _ e; injection e with e _)), Int.add_zero]
    rw [Go.Maps.atKey_put_other (fun e => c (keyS_inj e).symm), tx f]
theorem if_ne {a b : Va} {d : Int} (h : a ≠ b) : (if a = b then d else 0) = 0 := if_neg h
theorem ks_is {s s' : TS} {i : Nat} {d : Int} (e : s'.ks = up s.ks i (s.ks i + d)) (x : Int) (hx : x = i) (k : Nat) : s'.ks k = s.ks k + if x = (k : Int) then d else 0 := by
  rw [e, up_at]
  by_cases c : k = i
  · rw [if_pos c, if_pos (by omega)]
  · rw [if_neg c, if_neg (by omega)]
theorem fs_is {s s' : TS} {i : Nat} {d : Int} (e : s'.fs = up s.fs i (s.fs i + d)) (k : Nat) : s'.fs k = s.fs k + if vFault (i : Int) = vFault (k : Int) then d else 0 := by
  rw [e, up_at]
  by_cases c : k = i
  · rw [if_pos c, if_pos (by rw [c])]
  · rw [if_neg c, if_neg (fun q => c (by injection q with _ q; injection q with _ q; injection q with _ q; injection q with _ q; omega))]
theorem k_ne {a b : Va} (h : a.1 ≠ b.1) : a ≠ b := fun e => h (by rw [e])
theorem add_zero_of {x y : Int} (h : y = 0) : x = x + y := by omega
theorem keyOf_str {f : ByteArray} (h : f.size ≤ 1000000) : keyOf Try.prog 9 (.string f) = some (keyS f) := by
  have e : Try.prog.underlying 9 = some .string := Try.underlying9
  unfold keyOf mapKey
  rw [e]
  have hm : f.size ≤ maxLen := by unfold maxLen; omega
  simp only [if_pos hm]
  rfl
theorem go_len : ∀ (n : Nat) (s : ByteArray) (p : Nat) (xs : List Int), (value_Fold.go n s p xs).length = xs.length
  | 0, _, _, _ => rfl
  | n + 1, s, p, xs => by
    simp only [value_Fold.go]
    split
    · rw [go_len]
      split
      · rw [List.length_set]
      · rfl
    · rfl
theorem fold_size (s : ByteArray) : (value_Fold.s s).size = s.size := by
  show (((value_Fold.go s.size s 0 (value_Fold.nums s)).map fun n => UInt8.ofNat n.toNat).toArray).size = _
  rw [List.size_toArray, List.length_map, go_len]
  unfold value_Fold.nums
  rw [List.length_map]
  rfl
theorem keyOf_fold {s : ByteArray} (h : (s.size : Int) ≤ 255) : keyOf Try.prog 9 (.string (value_Fold.s s)) = some (keyS (value_Fold.s s)) := keyOf_str (by rw [fold_size]; omega)
theorem TOk.add {s s' : TS} {N : Nat} {L : List Va} {a : Va} (h : TOk s N L) (hr : Heldv a) (hl : L.length < 4096) (hn : Nums s' (numsOf (a :: L))) (hm : s'.n ≤ N + 1) (f : Facts s' (L.length + 1) (fun k => kn L k + if a.1 = k then 1 else 0) (fun x => cnt L x + if a = x then 1 else 0)) : TOk s' (N + 1) (a :: L) :=
  ⟨hn, Facts.forth f, fun x hx => (List.mem_cons.1 hx).elim (fun e => e ▸ hr) (h.right x), hm, by simp only [List.length_cons]; omega⟩
/-- A value more. -/
theorem add_ok {w : World} {t N : Nat} {s : TS} {L : List Va} {x : Va} (h : TRep w t s) (ok : TOk s N L) (hx : x.ok) (hl : L.length < 4096) (hN : N < 1000000) :
    Calls Try.prog 14 #[.pointer (some ⟨t, 0, none⟩), x.v] w fun e w' => e = .returned (.int .i64 0) ∧ ∃ s', TW w t s w' s' ∧ TOk s' (N + 1) (x.held :: L) := by
  have hr : Heldv x.held := ⟨x, hx, rfl⟩
  have ea := ok.facts.all
  have ea1 : wrap64 (s.all + 1) = s.all + 1 := w64 (by omega) (by omega)
  have kb : ∀ k : Nat, k < 5 → wrap64 (s.ks k + 1) = s.ks k + 1 := fun k hk => by
    have := kn_bd L k
    rw [ok.facts.ks k hk]
    exact w64 (by omega) (by omega)
  have cb : ∀ a, wrap64 (cnt L a + 1) = cnt L a + 1 := fun a => by
    have := cnt_bd L a
    exact w64 (by omega) (by omega)
  have hsn : s.n < maxLen := by have := ok.n; unfold maxLen; omega
  have f0 := ok.facts
  rcases Va.ok_cases hx with rfl | ⟨n, hn, rfl⟩ | ⟨str, hs, rfl⟩ | ⟨b, rfl⟩ | ⟨c, c1, c8, rfl⟩
  · refine (add_blank h hx (by omega)).mono ?_
    rintro e w' ⟨rfl, tw⟩
    refine ⟨rfl, _, tw, ok.add hr hl ?_ (Nat.le_succ_of_le ok.n) ?_⟩
    · rw [held_blank]
      exact ok.nums.same rfl rfl rfl rfl
    · rw [held_blank, ← f0.all]
      refine f0.all ▸ f0.step ea1 (fun k hk => ks_is (i := 0) (by show up s.ks 0 _ = _; rw [kb 0 (by decide)]) _ rfl k) (add_zero_of (if_ne (k_ne (by simp [vBlank, vNum, vText, vBool, vFault])))) (add_zero_of (if_ne (k_ne (by simp [vBlank, vNum, vText, vBool, vFault])))) (fun c hc => add_zero_of (if_ne (k_ne (by simp [vBlank, vNum, vText, vBool, vFault])))) (fun f => ?_)
      rw [if_ne (k_ne (by simp [vBlank, vNum, vText, vBool, vFault])), Int.add_zero]; exact f0.tx f
  · refine (add_nums h ok.nums hn (by have := numsOf_len L; have := kn_bd L 1; omega) (by omega)).mono ?_
    rintro e w' ⟨rfl, s', tw, hns, e1, e2, e3, e4, e5, e6⟩
    refine ⟨rfl, s', tw, ok.add hr hl ?_ (by rw [e6]; exact Nat.le_succ_of_le ok.n) ?_⟩
    · rw [held_num]
      exact hns
    · rw [held_num]
      refine f0.step (e1.trans ea1) (fun k hk => ks_is (i := 1) (by rw [e2, kb 1 (by decide)]) _ rfl k) (by rw [e3]; exact add_zero_of (if_ne (k_ne (by simp [vBlank, vNum, vText, vBool, vFault])))) (by rw [e3]; exact add_zero_of (if_ne (k_ne (by simp [vBlank, vNum, vText, vBool, vFault])))) (fun c hc => by rw [e4]; exact add_zero_of (if_ne (k_ne (by simp [vBlank, vNum, vText, vBool, vFault])))) (fun f => ?_)
      rw [if_ne (k_ne (by simp [vBlank, vNum, vText, vBool, vFault])), Int.add_zero, e5]; exact f0.tx f
  · refine (add_text h hx (by omega) (keyOf_fold hs) hsn (f0.tx _)).mono ?_
    rintro e w' ⟨rfl, tw⟩
    refine ⟨rfl, _, tw, ok.add hr hl ?_ (Nat.succ_le_succ ok.n) ?_⟩
    · rw [held_text]
      exact ok.nums.same rfl rfl rfl rfl
    · rw [held_text]
      refine f0.step ea1 (fun k hk => ks_is (i := 2) (by show up s.ks 2 _ = _; rw [kb 2 (by decide)]) _ rfl k) (add_zero_of (if_ne (k_ne (by simp [vBlank, vNum, vText, vBool, vFault])))) (add_zero_of (if_ne (k_ne (by simp [vBlank, vNum, vText, vBool, vFault])))) (fun c hc => add_zero_of (if_ne (k_ne (by simp [vBlank, vNum, vText, vBool, vFault])))) (fun f => ?_)
      show (s.D.put (keyS (value_Fold.s str)) (.lit (.int .i64 (wrap64 (cnt L (vText (value_Fold.s str)) + 1))))).atKey (keyS f) _ = _
      rw [cb]
      exact tx_put h f0.tx _ 1 f
  · cases b with
    | false =>
      refine (add_false h hx (by omega)).mono ?_
      rintro e w' ⟨rfl, tw⟩
      refine ⟨rfl, _, tw, ok.add hr hl ?_ (Nat.le_succ_of_le ok.n) ?_⟩
      · rw [held_bool]
        exact ok.nums.same rfl rfl rfl rfl
      · rw [held_bool]
        refine f0.step ea1 (fun k hk => ks_is (i := 3) (by show up s.ks 3 _ = _; rw [kb 3 (by decide)]) _ rfl k) ?_ ?_ (fun c hc => add_zero_of (if_ne (k_ne (by simp [vBlank, vNum, vText, vBool, vFault])))) (fun f => ?_)
        · show up s.tr 0 (wrap64 (s.tr 0 + 1)) 0 = _
          rw [f0.tr0, cb, ← f0.tr0, up_at, if_pos rfl, if_pos rfl]
        · show up s.tr 0 (wrap64 (s.tr 0 + 1)) 1 = _
          rw [f0.tr0, cb, ← f0.tr0, up_at, if_neg (by decide), if_neg (by decide)]
        · rw [if_ne (k_ne (by simp [vBlank, vNum, vText, vBool, vFault])), Int.add_zero]; exact f0.tx f
    | true =>
      refine (add_true h hx (by omega)).mono ?_
      rintro e w' ⟨rfl, tw⟩
      refine ⟨rfl, _, tw, ok.add hr hl ?_ (Nat.le_succ_of_le ok.n) ?_⟩
      · rw [held_bool]
        exact ok.nums.same rfl rfl rfl rfl
      · rw [held_bool]
        refine f0.step ea1 (fun k hk => ks_is (i := 3) (by show up s.ks 3 _ = _; rw [kb 3 (by decide)]) _ rfl k) ?_ ?_ (fun c hc => add_zero_of (if_ne (k_ne (by simp [vBlank, vNum, vText, vBool, vFault])))) (fun f => ?_)
        · show up s.tr 1 (wrap64 (s.tr 1 + 1)) 0 = _
          rw [f0.tr1, cb, ← f0.tr1, up_at, if_neg (by decide), if_neg (by decide)]
        · show up s.tr 1 (wrap64 (s.tr 1 + 1)) 1 = _
          rw [f0.tr1, cb, ← f0.tr1, up_at, if_pos rfl, if_pos rfl]
        · rw [if_ne (k_ne (by simp [vBlank, vNum, vText, vBool, vFault])), Int.add_zero]; exact f0.tx f
  · refine (add_fault h hx (by omega) c8).mono ?_
    rintro e w' ⟨rfl, tw⟩
    refine ⟨rfl, _, tw, ok.add hr hl ?_ (Nat.le_succ_of_le ok.n) ?_⟩
    · rw [held_fault]
      exact ok.nums.same rfl rfl rfl rfl
    · rw [held_fault]
      refine f0.step ea1 (fun k hk => ks_is (i := 4) (by show up s.ks 4 _ = _; rw [kb 4 (by decide)]) _ rfl k) (add_zero_of (if_ne (k_ne (by simp [vBlank, vNum, vText, vBool, vFault])))) (add_zero_of (if_ne (k_ne (by simp [vBlank, vNum, vText, vBool, vFault])))) (fun k hk => fs_is (by show up s.fs c _ = _; rw [f0.fs c c8, cb]) k) (fun f => ?_)
      rw [if_ne (k_ne (by simp [vBlank, vNum, vText, vBool, vFault])), Int.add_zero]; exact f0.tx f
theorem cnt_num (n : Int) : ∀ {L : List Va}, (∀ x ∈ L, Heldv x) → cnt L (vNum n) = ((numsOf L).countP fun y => decide (y = n) : Nat)
  | [], _ => rfl
  | a :: L, h => by
    rw [cnt_cons]
    dsimp only
    rw [cnt_num n (fun x hx => h x (List.mem_cons_of_mem _ hx))]
    obtain ⟨y, hy, e⟩ := h a List.mem_cons_self
    simp only [numsOf]
    rcases Va.ok_cases hy with rfl | ⟨m, hm, rfl⟩ | ⟨str, hs, rfl⟩ | ⟨b, rfl⟩ | ⟨c, c1, c8, rfl⟩
    · rw [held_blank] at e; subst e
      rw [if_ne (k_ne (by simp [vBlank, vNum, vText, vBool, vFault])), if_neg (by simp [vBlank, vNum, vText, vBool, vFault])]; omega
    · rw [held_num] at e; subst e
      rw [if_pos rfl, List.countP_cons]
      by_cases q : m = n
      · rw [if_pos (by rw [q]), if_pos (by simpa using q)]; omega
      · rw [if_neg (fun z => q (by injection z with _ z; injection z with z _)), if_neg (by simpa using q)]; omega
    · rw [held_text] at e; subst e
      rw [if_ne (k_ne (by simp [vBlank, vNum, vText, vBool, vFault])), if_neg (by simp [vBlank, vNum, vText, vBool, vFault])]; omega
    · rw [held_bool] at e; subst e
      rw [if_ne (k_ne (by simp [vBlank, vNum, vText, vBool, vFault])), if_neg (by simp [vBlank, vNum, vText, vBool, vFault])]; omega
    · rw [held_fault] at e; subst e
      rw [if_ne (k_ne (by simp [vBlank, vNum, vText, vBool, vFault])), if_neg (by simp [vBlank, vNum, vText, vBool, vFault])]; omega
theorem cnt_blank : ∀ {L : List Va}, (∀ x ∈ L, Heldv x) → cnt L vBlank = kn L 0
  | [], _ => rfl
  | a :: L, h => by
    rw [cnt_cons, kn_cons]
    dsimp only
    rw [cnt_blank (fun x hx => h x (List.mem_cons_of_mem _ hx))]
    obtain ⟨y, hy, e⟩ := h a List.mem_cons_self
    rcases Va.ok_cases hy with rfl | ⟨m, hm, rfl⟩ | ⟨str, hs, rfl⟩ | ⟨b, rfl⟩ | ⟨c, c1, c8, rfl⟩
    · rw [held_blank] at e; subst e
      rw [if_pos rfl, if_pos rfl]
    · rw [held_num] at e; subst e
      rw [if_ne (k_ne (by simp [vBlank, vNum, vText, vBool, vFault])), if_neg (by simp [vBlank, vNum, vText, vBool, vFault])]
    · rw [held_text] at e; subst e
      rw [if_ne (k_ne (by simp [vBlank, vNum, vText, vBool, vFault])), if_neg (by simp [vBlank, vNum, vText, vBool, vFault])]
    · rw [held_bool] at e; subst e
      rw [if_ne (k_ne (by simp [vBlank, vNum, vText, vBool, vFault])), if_neg (by simp [vBlank, vNum, vText, vBool, vFault])]
    · rw [held_fault] at e; subst e
      rw [if_ne (k_ne (by simp [vBlank, vNum, vText, vBool, vFault])), if_neg (by simp [vBlank, vNum, vText, vBool, vFault])]
theorem oftE_flat (x : Int) : ∀ {l : List (Nat × Int × Int)}, (∀ e ∈ l, 1 ≤ e.2.2) → oftE l x = ((flatE l).countP fun y => decide (y = x) : Nat)
  | [], _ => rfl
  | e :: es, h => by
    have i := oftE_flat x (fun q hq => h q (List.mem_cons_of_mem _ hq))
    have h0 := h e List.mem_cons_self
    unfold oftE at i ⊢
    rw [List.filter_cons]
    simp only [flatE, List.countP_append, List.countP_replicate]
    by_cases c : e.2.1 = x
    · rw [if_pos (by simpa using c), if_pos (by simpa using c), totE_cons, i]; omega
    · rw [if_neg (by simpa using c), if_neg (by simpa using c), i]; omega
theorem belE_flat (x : Int) : ∀ {l : List (Nat × Int × Int)}, (∀ e ∈ l, 1 ≤ e.2.2) → belE l x = ((flatE l).countP fun y => decide (y < x) : Nat)
  | [], _ => rfl
  | e :: es, h => by
    have i := belE_flat x (fun q hq => h q (List.mem_cons_of_mem _ hq))
    have h0 := h e List.mem_cons_self
    unfold belE at i ⊢
    rw [List.filter_cons]
    simp only [flatE, List.countP_append, List.countP_replicate]
    by_cases c : e.2.1 < x
    · rw [if_pos (by simpa using c), if_pos (by simpa using c), totE_cons, i]; omega
    · rw [if_neg (by simpa using c), if_neg (by simpa using c), i]; omega
theorem sz_le_tot {T : T3} (ok : Ok T) : T.sz < 200000 ∧ T.sz ≤ 100000 ∧ T.tot ≤ 100000 := by
  have := ok.pos.le
  have := ok.tot
  omega
/-- How often a value is there. -/
theorem often_ok {w : World} {t N : Nat} {s : TS} {L : List Va} {x : Va} (h : TRep w t s) (ok : TOk s N L) (hx : x.ok) :
    Calls Try.prog 20 #[.pointer (some ⟨t, 0, none⟩), x.v] w fun e w' => e = .returned (.int .i64 (cnt L x.held)) ∧ Below w.heap.size w w' := by
  have f0 := ok.facts
  rcases Va.ok_cases hx with rfl | ⟨n, hn, rfl⟩ | ⟨str, hs, rfl⟩ | ⟨b, rfl⟩ | ⟨c, c1, c8, rfl⟩
  · rw [held_blank, cnt_blank ok.right]
    have e : s.ks 0 = kn L 0 := f0.ks 0 (by decide)
    rw [← e]
    exact often_blank h hx
  · rw [held_num, cnt_num n ok.right]
    obtain ⟨T, i1, okT, hp, hf, hb⟩ := ok.nums.tree
    have o := often_tree (x := n) T 200000 i1 okT (sz_le_tot okT).1
    rw [← hp, oftE_flat n ((pos_ent T).1 okT.pos), hf.countP_eq] at o
    exact often_num h hx o
  · rw [held_text]
    exact often_text h hx (keyOf_fold hs) (f0.tx _)
  · cases b with
    | false =>
      rw [held_bool, ← f0.tr0]
      exact often_false h hx
    | true =>
      rw [held_bool, ← f0.tr1]
      exact often_true h hx
  · rw [held_fault, ← f0.fs c c8]
    exact often_fault h hx c8
end Go.Proofs.Ytlglopainaploaa.Tal
/-! What a tally tells, over lists of values; a number, a fault, a truth, a blank less. -/
namespace Go.Proofs.Ytlglopainaploaa.Tal
open Go.RowKit Go.Proofs.YtlglopainaploaaW.PrintWords Go.Proofs.YtlglopainaploaaW.PrintLast Go.Proofs.YtlglopainaploaaW.PrintMore
open Go.Proofs.Ytlglopainaploaa.PL Go.Proofs.Ytlglopainaploaa.Pure
set_option linter.unusedVariables false
set_option linter.unusedSimpArgs false

/-- The least code of faults; an answer, if there is no fault. -/
def faultOf (L : List Va) : Int := faultL 8 (fun c => cnt L (vFault c)) 0
def ask (L : List Va) (r : Int × Int) : Int × Int := if faultOf L = 0 then r else (0, faultOf L)
theorem faultL_congr {f g : Nat → Int} : ∀ (n i : Nat), (∀ c, c < i + n → f c = g c) → faultL n f i = faultL n g i
  | 0, _, _ => rfl
  | n + 1, i, h => by
    simp only [faultL]
    rw [h i (by omega), faultL_congr n (i + 1) (fun c hc => h c (by omega))]
theorem faultS_of {s : TS} {N : Nat} {L : List Va} (ok : TOk s N L) : faultS s = faultOf L := faultL_congr 8 0 (fun c hc => ok.facts.fs c (by omega))
theorem askR_of {s : TS} {N : Nat} {L : List Va} (ok : TOk s N L) (r : Int × Int) : askR s r = ask L r := by unfold askR ask; rw [faultS_of ok]
theorem faultOf_perm {L M : List Va} (p : L.Perm M) : faultOf L = faultOf M := by unfold faultOf; rw [cnt_perm p]
theorem ask_perm {L M : List Va} (p : L.Perm M) (r : Int × Int) : ask L r = ask M r := by unfold ask; rw [faultOf_perm p]
/-- The sum, the one at a place, the midst. -/
def sumA (l : List Int) : Int × Int := if -1000000000000000000 ≤ sumL l ∧ sumL l ≤ 1000000000000000000 then (sumL l, 0) else (0, 5)
def atA (l : List Int) (i : Nat) : Int := (srt l).getD i 0
def medI (l : List Int) : Int := meanV (atA l ((l.length - 1) / 2) + atA l (l.length / 2)) 2
def medA (l : List Int) : Int × Int := if l.length = 0 then (0, 5) else (medI l, 0)
def smallA (l : List Int) (k : Int) : Int × Int := if k < 1 ∨ (l.length : Int) < k then (0, 5) else (atA l (k - 1).toNat, 0)
def endA (l : List Int) (i : Nat) : Int × Int := if l.length = 0 then (0, 0) else (atA l i, 0)
def meanA (l : List Int) : Int × Int := if l.length = 0 then (0, 1) else (meanV (sumL l) l.length, 0)
theorem sumA_perm {l m : List Int} (p : l.Perm m) : sumA l = sumA m := by unfold sumA; rw [sumL_perm p]
theorem atA_perm {l m : List Int} (p : l.Perm m) (i : Nat) : atA l i = atA m i := by unfold atA; rw [srt_congr p]
theorem medA_perm {l m : List Int} (p : l.Perm m) : medA l = medA m := by unfold medA medI; rw [p.length_eq, atA_perm p, atA_perm p]
theorem smallA_perm {l m : List Int} (p : l.Perm m) (k : Int) : smallA l k = smallA m k := by unfold smallA; rw [p.length_eq, atA_perm p]
theorem all_ok {w : World} {t N : Nat} {s : TS} {L : List Va} (h : TRep w t s) (ok : TOk s N L) :
    Calls Try.prog 17 #[.pointer (some ⟨t, 0, none⟩)] w fun e w' => e = .returned (.int .i64 (L.length : Int)) ∧ w' = w := by
  rw [← ok.facts.all]
  exact all_calls h
theorem count_ok {w : World} {t N : Nat} {s : TS} {L : List Va} (h : TRep w t s) (ok : TOk s N L) {k : Nat} (hk : k < 5) :
    Calls Try.prog 16 #[.pointer (some ⟨t, 0, none⟩), .int .i64 (k : Int)] w fun e w' => e = .returned (.int .i64 (kn L k)) ∧ Below w.heap.size w w' := by
  rw [← ok.facts.ks k hk]
  exact (count_t h hk).mono fun e w' ⟨h1, h2⟩ => ⟨h1, below_of_drawn h2⟩
theorem fault_ok {w : World} {t N : Nat} {s : TS} {L : List Va} (h : TRep w t s) (ok : TOk s N L) :
    Calls Try.prog 18 #[.pointer (some ⟨t, 0, none⟩)] w fun e w' => e = .returned (.int .i64 (faultOf L)) ∧ Below w.heap.size w w' := by
  rw [← faultS_of ok]
  exact (fault_t h).mono fun e w' ⟨h1, h2⟩ => ⟨h1, below_of_drawn h2⟩
theorem below_ok {w : World} {t N : Nat} {s : TS} {L : List Va} {x : Int} (h : TRep w t s) (ok : TOk s N L) :
    Calls Try.prog 19 #[.pointer (some ⟨t, 0, none⟩), .int .i64 x] w fun e w' => e = .returned (.int .i64 ((numsOf L).countP fun y => decide (y < x) : Nat)) ∧ Below w.heap.size w w' := by
  obtain ⟨T, i1, okT, hp, hf, hb⟩ := ok.nums.tree
  have o := below_tree (x := x) (a := 0) T 200000 i1 okT (sz_le_tot okT).1 (by decide) (by have := (sz_le_tot okT).2.2; omega)
  rw [← hp, belE_flat x ((pos_ent T).1 okT.pos), hf.countP_eq, Int.zero_add] at o
  exact (below_t h o).mono fun e w' ⟨h1, h2⟩ => ⟨h1, below_of_drawn h2⟩
theorem height_ok {w : World} {t N : Nat} {s : TS} {L : List Va} (h : TRep w t s) (ok : TOk s N L) :
    ∃ T, Ok T ∧ Bal T ∧ (flatE T.ent).Perm (numsOf L) ∧ Calls Try.prog 21 #[.pointer (some ⟨t, 0, none⟩)] w fun e w' => e = .returned (.int .i64 (T.ht : Int)) ∧ Below w.heap.size w w' := by
  obtain ⟨T, i1, okT, hp, hf, hb⟩ := ok.nums.tree
  have o := height_tree T 200000 i1 (sz_le_tot okT).1 (by have := (sz_le_tot okT).2.1; omega)
  rw [← hp] at o
  exact ⟨T, okT, hb, hf, (height_t h o).mono fun e w' ⟨h1, h2⟩ => ⟨h1, below_of_drawn h2⟩⟩
theorem ks1 {s : TS} {N : Nat} {L : List Va} (ok : TOk s N L) : s.ks 1 = (numsOf L).length := by
  have e : s.ks 1 = kn L 1 := ok.facts.ks 1 (by decide)
  rw [e, numsOf_len]
/-- What stands at a place. -/
theorem at_ok {s : TS} {N : Nat} {L : List Va} (ok : TOk s N L) (hl : 0 < (numsOf L).length) : ∃ b, s.p = some b ∧ ∀ i : Int, 0 ≤ i → i < (numsOf L).length → atH 200000 s.H b i = some (atA (numsOf L) i.toNat) := by
  obtain ⟨T, i1, okT, hp, hf, hb⟩ := ok.nums.tree
  have fl := flatE_len ((pos_ent T).1 okT.pos)
  rw [← T3.tot_ent, hf.length_eq] at fl
  have hn : T ≠ .nil := fun e => by subst e; simp only [T3.tot] at fl; omega
  obtain ⟨b, hbT⟩ : ∃ b, T.root = some b := by
    cases T with
    | nil => exact absurd rfl hn
    | node a _ _ _ _ => exact ⟨a, rfl⟩
  refine ⟨b, hp.trans hbT, fun i h0 h1 => ?_⟩
  have o := at_tree T 200000 (i := i) i1 okT (sz_le_tot okT).1 hbT h0 (by omega)
  rwa [srt_one (flat_sorted okT.ord) hf] at o
theorem sumR_in {L : List Va} {s : TS} {N : Nat} (ok : TOk s N L) : inR (sumL (numsOf L)) := sumL_in ok.nums.fits (by have := ok.nums.len; omega)
theorem sum_ok {w : World} {t N : Nat} {s : TS} {L : List Va} (h : TRep w t s) (ok : TOk s N L) :
    Calls Try.prog 9 #[.pointer (some ⟨t, 0, none⟩)] w fun q w' => q = .returned (.tuple #[.int .i64 (ask L (sumA (numsOf L))).1, .int .i64 (ask L (sumA (numsOf L))).2]) ∧ Below w.heap.size w w' := by
  have hw := total_v (sumR_in ok)
  rw [← ok.nums.hi, ← ok.nums.lo] at hw
  by_cases c : -1000000000000000000 ≤ sumL (numsOf L) ∧ sumL (numsOf L) ≤ 1000000000000000000
  · rw [if_pos c] at hw
    have r := sum_t h hw
    unfold sumR at r
    rw [if_pos rfl, askR_of ok] at r
    unfold sumA
    rw [if_pos c]
    exact r
  · rw [if_neg c] at hw
    have r := sum_t h hw
    unfold sumR at r
    rw [if_neg (by decide), askR_of ok] at r
    unfold sumA
    rw [if_neg c]
    exact r
theorem small_ok {w : World} {t N : Nat} {s : TS} {L : List Va} {k : Int} (h : TRep w t s) (ok : TOk s N L) :
    Calls Try.prog 11 #[.pointer (some ⟨t, 0, none⟩), .int .i64 k] w fun q w' => q = .returned (.tuple #[.int .i64 (ask L (smallA (numsOf L) k)).1, .int .i64 (ask L (smallA (numsOf L) k)).2]) ∧ Below w.heap.size w w' := by
  have hk := ks1 ok
  have hl := ok.nums.len
  by_cases c : k < 1 ∨ ((numsOf L).length : Int) < k
  · have r := small_t (b := 0) (n := 0) (x := 0) (i := k) h (fun q => absurd (by rw [hk]; exact c) q)
    unfold smallR at r
    rw [hk, if_pos c, askR_of ok] at r
    unfold smallA
    rw [if_pos c]
    exact r
  · obtain ⟨b, hp, hat⟩ := at_ok ok (by omega)
    have r := small_t (b := b) (n := 200000) (x := atA (numsOf L) (k - 1).toNat) (i := k) h (fun _ => ⟨hp, by rw [w64 (by omega) (by omega)]; exact hat _ (by omega) (by omega)⟩)
    unfold smallR at r
    rw [hk, if_neg c, askR_of ok] at r
    unfold smallA
    rw [if_neg c]
    exact r
theorem least_ok {w : World} {t N : Nat} {s : TS} {L : List Va} (h : TRep w t s) (ok : TOk s N L) :
    Calls Try.prog 13 #[.pointer (some ⟨t, 0, none⟩)] w fun q w' => q = .returned (.tuple #[.int .i64 (ask L (endA (numsOf L) 0)).1, .int .i64 (ask L (endA (numsOf L) 0)).2]) ∧ Below w.heap.size w w' := by
  have hk := ks1 ok
  have hl := ok.nums.len
  by_cases c : (numsOf L).length = 0
  · have r := least_t (b := 0) (n := 0) (x := 0) h (fun q => absurd (by omega) q)
    unfold endR at r
    rw [if_pos (by omega), askR_of ok] at r
    unfold endA
    rw [if_pos c]
    exact r
  · obtain ⟨b, hp, hat⟩ := at_ok ok (by omega)
    have r := least_t (b := b) (n := 200000) (x := atA (numsOf L) 0) h (fun _ => ⟨hp, hat 0 (by omega) (by omega)⟩)
    unfold endR at r
    rw [if_neg (by omega), askR_of ok] at r
    unfold endA
    rw [if_neg c]
    exact r
theorem greatest_ok {w : World} {t N : Nat} {s : TS} {L : List Va} (h : TRep w t s) (ok : TOk s N L) :
    Calls Try.prog 31 #[.pointer (some ⟨t, 0, none⟩)] w fun q w' => q = .returned (.tuple #[.int .i64 (ask L (endA (numsOf L) ((numsOf L).length - 1))).1, .int .i64 (ask L (endA (numsOf L) ((numsOf L).length - 1))).2]) ∧ Below w.heap.size w w' := by
  have hk := ks1 ok
  have hl := ok.nums.len
  by_cases c : (numsOf L).length = 0
  · have r := greatest_t (b := 0) (n := 0) (x := 0) h (fun q => absurd (by omega) q)
    unfold endR at r
    rw [if_pos (by omega), askR_of ok] at r
    unfold endA
    rw [if_pos c]
    exact r
  · obtain ⟨b, hp, hat⟩ := at_ok ok (by omega)
    have r := greatest_t (b := b) (n := 200000) (x := atA (numsOf L) ((numsOf L).length - 1)) h (fun _ => ⟨hp, by
      rw [hk, w64 (by omega) (by omega), hat _ (by omega) (by omega)]
      congr 2
      omega⟩)
    unfold endR at r
    rw [if_neg (by omega), askR_of ok] at r
    unfold endA
    rw [if_neg c]
    exact r
theorem fits_at {l : List Int} (h : ∀ x ∈ l, FitsI x) (i : Nat) : FitsI (atA l i) := by
  unfold atA
  rw [List.getD_eq_getElem?_getD]
  cases e : (srt l)[i]? with
  | none => exact ⟨by decide, by decide⟩
  | some x => exact h x ((srt_perm l).mem_iff.1 (List.mem_of_getElem? e))
theorem rhe_le {v b : Int} (h0 : 0 ≤ v) (h : v ≤ 2 * b) : rhe v 2 ≤ b := by
  have := meanV_le (v := v) (c := 2) (b := b) (by decide) h
  unfold meanV absI at this
  rw [if_neg (by omega), if_neg (by omega)] at this
  exact this
theorem median_ok {w : World} {t N : Nat} {s : TS} {L : List Va} (h : TRep w t s) (ok : TOk s N L) :
    Calls Try.prog 12 #[.pointer (some ⟨t, 0, none⟩)] w fun q w' => q = .returned (.tuple #[.int .i64 (ask L (medA (numsOf L))).1, .int .i64 (ask L (medA (numsOf L))).2]) ∧ Below w.heap.size w w' := by
  have hk := ks1 ok
  have hl := ok.nums.len
  by_cases c : (numsOf L).length = 0
  · have r := median_t (m := 0) h (fun q => absurd (by omega) q)
    unfold medR at r
    rw [if_pos (by omega), askR_of ok] at r
    unfold medA
    rw [if_pos c]
    exact r
  · obtain ⟨b, hp, hat⟩ := at_ok ok (by omega)
    have f1 := fits_at ok.nums.fits (((numsOf L).length - 1) / 2)
    have f2 := fits_at ok.nums.fits ((numsOf L).length / 2)
    have bd : ∀ x y : Int, FitsI x → FitsI y → inR x ∧ inR (x + y) ∧ absI (x + y) ≤ 2 * 1000000000000000000 ∧ 0 ≤ absI (x + y) := fun x y h1 h2 => by
      obtain ⟨a1, a2⟩ := h1
      obtain ⟨b1, b2⟩ := h2
      refine ⟨⟨by omega, by omega⟩, ⟨by omega, by omega⟩, ?_, ?_⟩ <;> unfold absI <;> split <;> omega
    obtain ⟨r1, r2, r3, r4⟩ := bd _ _ f1 f2
    have z0 : inR 0 := ⟨by decide, by decide⟩
    have a1 := add_in (v := 0) z0 f1 (by rw [Int.zero_add]; exact r1)
    rw [Int.zero_add] at a1
    have a2 := add_in r1 f2 r2
    have m := mean_v (c := 2) r2 (by decide) (by decide)
    have rb := rhe_le r4 r3
    rw [if_neg (by omega)] at m
    obtain ⟨k0, hk0⟩ := m
    have r := median_t (m := medI (numsOf L)) h (fun _ => ⟨200000, b, k0, _, _, _, _, _, _, _, _, _, hp, by
      rw [hk, w64 (x := ((numsOf L).length : Int) - 1) (by omega) (by omega), Int.tdiv_eq_ediv_of_nonneg (by omega), w64 (by omega) (by omega), hat _ (by omega) (by omega)]
      exact congrArg some (congrArg (atA _) (by omega)), by
      rw [hk, Int.tdiv_eq_ediv_of_nonneg (by omega), w64 (by omega) (by omega), hat _ (by omega) (by omega)]
      exact congrArg some (congrArg (atA _) (by omega)), a1, a2, hk0 k0 (Nat.le_refl _)⟩)
    unfold medR at r
    rw [if_neg (by omega), askR_of ok] at r
    unfold medA
    rw [if_neg c]
    exact r
end Go.Proofs.Ytlglopainaploaa.Tal
/-! A value less, over lists of values (no text). -/
namespace Go.Proofs.Ytlglopainaploaa.Tal
open Go.RowKit Go.Proofs.YtlglopainaploaaW.PrintWords Go.Proofs.YtlglopainaploaaW.PrintLast Go.Proofs.YtlglopainaploaaW.PrintMore
open Go.Proofs.Ytlglopainaploaa.PL Go.Proofs.Ytlglopainaploaa.Pure
set_option linter.unusedVariables false
set_option linter.unusedSimpArgs false

theorem sub_of (h l n : Int) : wide_Sub.f h l n = some (if WV h l ∧ FitsI n then carry h (l - n) else (0, 0, 2)) := by
  unfold wide_Sub.f
  rw [check_of, fits_of]
  simp only [Option.bind_some]
  by_cases c : WV h l
  · rw [if_pos c, if_pos rfl]
    by_cases d : FitsI n
    · obtain ⟨a1, a2, a3, a4⟩ := c; obtain ⟨b1, b2⟩ := d
      rw [decide_eq_true (show FitsI n from ⟨b1, b2⟩), if_pos rfl, if_pos (⟨⟨a1, a2, a3, a4⟩, ⟨b1, b2⟩⟩ : _ ∧ _), wr64 (by omega) (by omega), carried_of _ _ (by omega) (by omega) (by omega) (by omega)]
      rfl
    · rw [decide_eq_false d, if_neg (by decide), if_neg (fun q => d q.2)]
  · rw [if_neg c, if_neg (by decide), if_neg (fun q => c q.1)]
theorem sub_v {v n : Int} (r : inR v) : wide_Sub.f (v / 1000000000000000000) (v % 1000000000000000000) n =
    some (if FitsI n then carry (v / 1000000000000000000) (v % 1000000000000000000 - n) else (0, 0, 2)) := by
  rw [sub_of]
  congr 1
  by_cases c : FitsI n
  · rw [if_pos ⟨WV_of r, c⟩, if_pos c]
  · rw [if_neg (fun q => c q.2), if_neg c]
theorem sub_in {v n : Int} (r : inR v) (f : FitsI n) (s : inR (v - n)) : wide_Sub.f (v / 1000000000000000000) (v % 1000000000000000000) n =
    some ((v - n) / 1000000000000000000, (v - n) % 1000000000000000000, 0) := by
  have e : val (v / 1000000000000000000) (v % 1000000000000000000 - n) = v - n := by unfold val; omega
  rw [sub_v r, if_pos f, carry_in (by rw [e]; exact s), e]
theorem TOk.back {s s' : TS} {N : Nat} {M : List Va} {a : Va} (h : TOk s N (a :: M)) (hn : Nums s' (numsOf M)) (hm : s'.n ≤ N) (f : Facts s' ((a :: M).length + -1) (fun k => kn (a :: M) k + if a.1 = k then -1 else 0) (fun x => cnt (a :: M) x + if a = x then -1 else 0)) : TOk s' N M :=
  ⟨hn, Facts.back f, fun x hx => h.right x (List.mem_cons_of_mem _ hx), hm, by have := h.len; simp only [List.length_cons] at this; omega⟩
/-- A number less. -/
theorem drop_nums {w : World} {t : Nat} {s : TS} {L : List Int} {n q : Int} (h : TRep w t s) (hn : Nums s (n :: L)) (hq : q ≠ 0)
    (ho : ∀ w1, TRep w1 t s → Calls Try.prog 20 #[.pointer (some ⟨t, 0, none⟩), .agg #[.int .i64 1, .int .i64 n, .string ⟨#[]⟩, .bool false, .int .i64 0]] w1 fun e w' => e = .returned (.int .i64 q) ∧ Below w1.heap.size w1 w') :
    Calls Try.prog 15 #[.pointer (some ⟨t, 0, none⟩), .agg #[.int .i64 1, .int .i64 n, .string ⟨#[]⟩, .bool false, .int .i64 0]] w fun e w' => e = .returned (.int .i64 0) ∧
      ∃ s', TW w t s w' s' ∧ Nums s' L ∧ s'.all = wrap64 (s.all - 1) ∧ s'.ks = up s.ks 1 (wrap64 (s.ks 1 - 1)) ∧ s'.tr = s.tr ∧ s'.fs = s.fs ∧ s'.D = s.D ∧ s'.n = s.n := by
  obtain ⟨⟨T, hi, ok, hp, hf, hb⟩, fits, h1, h2, len⟩ := hn
  have f : FitsI n := fits n List.mem_cons_self
  have fits' : ∀ x ∈ L, FitsI x := fun x hx => fits x (List.mem_cons_of_mem _ hx)
  simp only [List.length_cons] at len
  have pe := (pos_ent T).1 ok.pos
  have hm : ∃ e ∈ T.ent, e.2.1 = n := flat_mem (hf.mem_iff.2 List.mem_cons_self)
  have hnil : T ≠ .nil := fun e => by subst e; obtain ⟨e, he, _⟩ := hm; cases he
  obtain ⟨g, hg⟩ : ∃ g, T.root = some g := by
    cases T with
    | nil => exact absurd rfl hnil
    | node a _ _ _ _ => exact ⟨a, rfl⟩
  obtain ⟨H', e, i2, _⟩ := without_tree (x := n) T 200000 hi ok hg hm (sz_le_tot ok).1
  have r0 := sumL_in fits (by simp; omega)
  have r1 := sumL_in fits' (by omega)
  have es : sumL (n :: L) - n = sumL L := by simp only [sumL]; omega
  rw [← es] at r1
  have ws := sub_in r0 f r1
  rw [← h1, ← h2, es] at ws
  have hv : value_Check.f 1 n ⟨#[]⟩ false 0 = some 0 := by
    have a : decide (-1000000000000000000 ≤ n) = true := decide_eq_true f.1
    have b : decide (n ≤ 1000000000000000000) = true := decide_eq_true f.2
    simp [value_Check.f, value_Check.fit, value_Check.bare, a, b]
  refine (drop_num h hv hq ho (hp.trans hg) e ws).mono ?_
  rintro e w' ⟨rfl, tw⟩
  refine ⟨rfl, _, tw, ⟨⟨withoutT n T, i2, ok.withoutT n, rfl, ?_, hb.withoutT ok⟩, fits', rfl, rfl, by omega⟩, rfl, rfl, rfl, rfl, rfl, rfl⟩
  rw [withoutT_ent n T ok.ord]
  exact ((withoutE_flat n pe hm).trans hf).cons_inv
theorem cnt_self (a : Va) (M : List Va) : cnt (a :: M) a = cnt M a + 1 := by rw [cnt_cons]; dsimp only; rw [if_pos rfl]
theorem sub_is {x : Int} (h0 : 0 ≤ x) (h1 : x ≤ 1000000) : wrap64 (x - 1) = x + -1 := by rw [w64 (x := x - 1) (by omega) (by omega)]; omega
/-- A value less. -/
theorem drop_plain {w : World} {t N : Nat} {s : TS} {L M : List Va} {x : Va} (h : TRep w t s) (okL : TOk s N L) (hx : x.ok) (h2 : x.k ≠ 2) (p : L.Perm (x.held :: M)) :
    Calls Try.prog 15 #[.pointer (some ⟨t, 0, none⟩), x.v] w fun e w' => e = .returned (.int .i64 0) ∧ ∃ s', TW w t s w' s' ∧ TOk s' N M := by
  have ok := okL.perm p
  have f0 := ok.facts
  have ho := fun w1 (h1 : TRep w1 t s) => often_ok h1 ok hx
  have hq : cnt (x.held :: M) x.held ≠ 0 := by have := cnt_bd M x.held; rw [cnt_self]; omega
  have len := ok.len
  have ea1 : wrap64 (s.all - 1) = s.all + -1 := by rw [f0.all]; exact sub_is (by omega) (by omega)
  have kb : ∀ k : Nat, k < 5 → wrap64 (s.ks k - 1) = s.ks k + -1 := fun k hk => by
    have := kn_bd (x.held :: M) k
    rw [f0.ks k hk]
    exact sub_is (by omega) (by omega)
  have cb : ∀ a, wrap64 (cnt (x.held :: M) a - 1) = cnt (x.held :: M) a + -1 := fun a => by
    have := cnt_bd (x.held :: M) a
    exact sub_is (by omega) (by omega)
  rcases Va.ok_cases hx with rfl | ⟨n, hn, rfl⟩ | ⟨str, hs, rfl⟩ | ⟨b, rfl⟩ | ⟨c, c1, c8, rfl⟩
  · refine (drop_blank h hx hq ho).mono ?_
    rintro e w' ⟨rfl, tw⟩
    rw [held_blank] at ok f0 cb
    refine ⟨rfl, _, tw, ok.back (ok.nums.same rfl rfl rfl rfl) ok.n ?_⟩
    refine f0.step ea1 (fun k hk => ks_is (i := 0) (by show up s.ks 0 _ = _; rw [kb 0 (by decide)]) _ rfl k) (add_zero_of (if_ne (k_ne (by simp)))) (add_zero_of (if_ne (k_ne (by simp)))) (fun c hc => add_zero_of (if_ne (k_ne (by simp)))) (fun f => ?_)
    rw [if_ne (k_ne (by simp)), Int.add_zero]; exact f0.tx f
  · rw [held_num] at ok f0 cb
    refine (drop_nums h ok.nums hq ho).mono ?_
    rintro e w' ⟨rfl, s', tw, hns, e1, e2, e3, e4, e5, e6⟩
    refine ⟨rfl, s', tw, ok.back hns (by rw [e6]; exact ok.n) ?_⟩
    refine f0.step (e1.trans ea1) (fun k hk => ks_is (i := 1) (by rw [e2, kb 1 (by decide)]) _ rfl k) (by rw [e3]; exact add_zero_of (if_ne (k_ne (by simp)))) (by rw [e3]; exact add_zero_of (if_ne (k_ne (by simp)))) (fun c hc => by rw [e4]; exact add_zero_of (if_ne (k_ne (by simp)))) (fun f => ?_)
    rw [if_ne (k_ne (by simp)), Int.add_zero, e5]; exact f0.tx f
  · exact absurd rfl h2
  · cases b with
    | false =>
      refine (drop_false h hx hq ho).mono ?_
      rintro e w' ⟨rfl, tw⟩
      rw [held_bool] at ok f0 cb
      refine ⟨rfl, _, tw, ok.back (ok.nums.same rfl rfl rfl rfl) ok.n ?_⟩
      refine f0.step ea1 (fun k hk => ks_is (i := 3) (by show up s.ks 3 _ = _; rw [kb 3 (by decide)]) _ rfl k) ?_ ?_ (fun c hc => add_zero_of (if_ne (k_ne (by simp)))) (fun f => ?_)
      · show up s.tr 0 (wrap64 (s.tr 0 - 1)) 0 = _
        rw [f0.tr0, cb, ← f0.tr0, up_at, if_pos rfl, if_pos rfl]
      · show up s.tr 0 (wrap64 (s.tr 0 - 1)) 1 = _
        rw [f0.tr0, cb, ← f0.tr0, up_at, if_neg (by decide), if_neg (by decide)]
      · rw [if_ne (k_ne (by simp)), Int.add_zero]; exact f0.tx f
    | true =>
      refine (drop_true h hx hq ho).mono ?_
      rintro e w' ⟨rfl, tw⟩
      rw [held_bool] at ok f0 cb
      refine ⟨rfl, _, tw, ok.back (ok.nums.same rfl rfl rfl rfl) ok.n ?_⟩
      refine f0.step ea1 (fun k hk => ks_is (i := 3) (by show up s.ks 3 _ = _; rw [kb 3 (by decide)]) _ rfl k) ?_ ?_ (fun c hc => add_zero_of (if_ne (k_ne (by simp)))) (fun f => ?_)
      · show up s.tr 1 (wrap64 (s.tr 1 - 1)) 0 = _
        rw [f0.tr1, cb, ← f0.tr1, up_at, if_neg (by decide), if_neg (by decide)]
      · show up s.tr 1 (wrap64 (s.tr 1 - 1)) 1 = _
        rw [f0.tr1, cb, ← f0.tr1, up_at, if_pos rfl, if_pos rfl]
      · rw [if_ne (k_ne (by simp)), Int.add_zero]; exact f0.tx f
  · refine (drop_fault h hx hq ho c8).mono ?_
    rintro e w' ⟨rfl, tw⟩
    rw [held_fault] at ok f0 cb
    refine ⟨rfl, _, tw, ok.back (ok.nums.same rfl rfl rfl rfl) ok.n ?_⟩
    refine f0.step ea1 (fun k hk => ks_is (i := 4) (by show up s.ks 4 _ = _; rw [kb 4 (by decide)]) _ rfl k) (add_zero_of (if_ne (k_ne (by simp)))) (add_zero_of (if_ne (k_ne (by simp)))) (fun k hk => fs_is (by show up s.fs c _ = _; rw [f0.fs c c8, cb]) k) (fun f => ?_)
    rw [if_ne (k_ne (by simp)), Int.add_zero]; exact f0.tx f
end Go.Proofs.Ytlglopainaploaa.Tal
/-! The document's examples: foolscaplaw20.lives. -/
namespace Go.Proofs.Ytlglopainaploaa.Tal
open Go.RowKit Go.Proofs.YtlglopainaploaaW.PrintWords Go.Proofs.YtlglopainaploaaW.PrintLast Go.Proofs.YtlglopainaploaaW.PrintMore
open Go.Proofs.Ytlglopainaploaa.PL Go.Proofs.Ytlglopainaploaa.Pure
set_option linter.unusedVariables false
set_option linter.unusedSimpArgs false

theorem number_calls (n : Int) (w : World) : Calls Try.prog 24 #[.int .i64 n] w fun e w' => e = .returned (.agg #[.int .i64 1, .int .i64 n, .string ⟨#[]⟩, .bool false, .int .i64 0]) ∧ Below w.heap.size w w' := foolscaplaw20_number.calls n _ _ _ _ _ w rfl
theorem text_calls (s : ByteArray) (w : World) : Calls Try.prog 59 #[.string s] w fun e w' => e = .returned (.agg #[.int .i64 2, .int .i64 0, .string s, .bool false, .int .i64 0]) ∧ Below w.heap.size w w' := foolscaplaw20_text.calls s _ _ _ _ _ w rfl
theorem fault_calls (c : Int) (w : World) : Calls Try.prog 60 #[.int .i64 c] w fun e w' => e = .returned (.agg #[.int .i64 4, .int .i64 0, .string ⟨#[]⟩, .bool false, .int .i64 c]) ∧ Below w.heap.size w w' := foolscaplaw20_fault.calls c _ _ _ _ _ w rfl
theorem take_succ_rev {l : List Va} {i : Nat} (h : i < l.length) : ((l.take (i + 1)).map Va.held).reverse = (l.getD i vBlank).held :: ((l.take i).map Va.held).reverse := by
  rw [List.take_succ_eq_append_getElem h, List.map_append, List.reverse_append, List.getD_eq_getElem?_getD, List.getElem?_eq_getElem h]
  rfl
/-- A tally of values that are right. -/
theorem of_ok {w : World} {g cap : Nat} {l : List Va} (hlen : l.length < 4096) (hg : g < w.heap.size) (hv : ∀ i, i < l.length → VaAt w g i (l.getD i vBlank)) (hr : ∀ x ∈ l, x.ok) :
    Calls Try.prog 58 #[.slice (some ⟨g, 0, none⟩) l.length cap] w fun e w' => ∃ t s, e = .returned (.pointer (some ⟨t, 0, none⟩)) ∧ Mine w t s w' ∧ TOk s l.length (l.map Va.held).reverse := by
  refine (of_calls (I := fun i s => TOk s i ((l.take i).map Va.held).reverse) (vs := fun i => l.getD i vBlank) (by omega) hg hv (fun g => TOk.new g 0) (fun i hi w1 t s h ok => ?_)).mono ?_
  · have hm : l.getD i vBlank ∈ l := by
      rw [List.getD_eq_getElem?_getD, List.getElem?_eq_getElem hi]
      exact List.getElem_mem hi
    refine (add_ok h ok (hr _ hm) (by simp; omega) (by omega)).mono ?_
    rintro e w' ⟨he, s', tw, ok'⟩
    exact ⟨he, s', tw, by rw [take_succ_rev hi]; exact ok'⟩
  · rintro e w' ⟨t, s, he, h, ok⟩
    exact ⟨t, s, he, h, by rw [List.take_length] at ok; exact ok⟩
def exL : List Va := [vNum 5, vNum 1, vText ⟨#[120]⟩, vNum 1, vBool true]
def L5 : List Va := [vBool true, vNum 1, vText ⟨#[88]⟩, vNum 1, vNum 5]
def L4 : List Va := [vBool true, vNum 1, vText ⟨#[88]⟩, vNum 1]
theorem exL_held : (exL.map Va.held).reverse = L5 := by decide +kernel
theorem exL_ok : ∀ x ∈ exL, x.ok := by
  intro x hx
  simp only [exL, List.mem_cons, List.not_mem_nil, or_false] at hx
  rcases hx with rfl | rfl | rfl | rfl | rfl <;> (unfold Va.ok Va.chk; decide +kernel)
theorem sum5 {w : World} {t N : Nat} {s : TS} (h : TRep w t s) (ok : TOk s N L5) :
    Calls Try.prog 9 #[.pointer (some ⟨t, 0, none⟩)] w fun e w' => e = .returned (.tuple #[.int .i64 7, .int .i64 0]) ∧ Below w.heap.size w w' := by
  have r := sum_ok h ok
  rw [show ask L5 (sumA (numsOf L5)) = (7, 0) by decide +kernel] at r
  exact r
theorem median5 {w : World} {t N : Nat} {s : TS} (h : TRep w t s) (ok : TOk s N L5) :
    Calls Try.prog 12 #[.pointer (some ⟨t, 0, none⟩)] w fun e w' => e = .returned (.tuple #[.int .i64 1, .int .i64 0]) ∧ Below w.heap.size w w' := by
  have r := median_ok h ok
  rw [show ask L5 (medA (numsOf L5)) = (1, 0) by decide +kernel] at r
  exact r
theorem small5 {w : World} {t N : Nat} {s : TS} (h : TRep w t s) (ok : TOk s N L5) :
    Calls Try.prog 11 #[.pointer (some ⟨t, 0, none⟩), .int .i64 3] w fun e w' => e = .returned (.tuple #[.int .i64 5, .int .i64 0]) ∧ Below w.heap.size w w' := by
  have r := small_ok (k := 3) h ok
  rw [show ask L5 (smallA (numsOf L5) 3) = (5, 0) by decide +kernel] at r
  exact r
theorem count5 {w : World} {t N : Nat} {s : TS} (h : TRep w t s) (ok : TOk s N L5) :
    Calls Try.prog 16 #[.pointer (some ⟨t, 0, none⟩), .int .i64 1] w fun e w' => e = .returned (.int .i64 3) ∧ Below w.heap.size w w' := by
  have r := count_ok (k := 1) h ok (by decide)
  rw [show kn L5 (1 : Nat) = 3 by decide +kernel] at r
  exact r
theorem below5 {w : World} {t N : Nat} {s : TS} (h : TRep w t s) (ok : TOk s N L5) :
    Calls Try.prog 19 #[.pointer (some ⟨t, 0, none⟩), .int .i64 5] w fun e w' => e = .returned (.int .i64 2) ∧ Below w.heap.size w w' := by
  have r := below_ok (x := 5) h ok
  rw [show (((numsOf L5).countP fun y => decide (y < 5) : Nat) : Int) = 2 by decide +kernel] at r
  exact r
theorem often5 {w : World} {t N : Nat} {s : TS} (h : TRep w t s) (ok : TOk s N L5) :
    Calls Try.prog 20 #[.pointer (some ⟨t, 0, none⟩), .agg #[.int .i64 1, .int .i64 1, .string ⟨#[]⟩, .bool false, .int .i64 0]] w fun e w' => e = .returned (.int .i64 2) ∧ Below w.heap.size w w' := by
  have r := often_ok (x := vNum 1) h ok (by unfold Va.ok Va.chk; decide +kernel)
  rw [show cnt L5 (Va.held (vNum 1)) = 2 by decide +kernel] at r
  exact r
theorem sum6 {w : World} {t N : Nat} {s : TS} (h : TRep w t s) (ok : TOk s N (vFault 6 :: L5)) :
    Calls Try.prog 9 #[.pointer (some ⟨t, 0, none⟩)] w fun e w' => e = .returned (.tuple #[.int .i64 0, .int .i64 6]) ∧ Below w.heap.size w w' := by
  have r := sum_ok h ok
  rw [show ask (vFault 6 :: L5) (sumA (numsOf (vFault 6 :: L5))) = (0, 6) by decide +kernel] at r
  exact r
theorem greatest4 {w : World} {t N : Nat} {s : TS} (h : TRep w t s) (ok : TOk s N L4) :
    Calls Try.prog 31 #[.pointer (some ⟨t, 0, none⟩)] w fun e w' => e = .returned (.tuple #[.int .i64 1, .int .i64 0]) ∧ Below w.heap.size w w' := by
  have r := greatest_ok h ok
  rw [show ask L4 (endA (numsOf L4) ((numsOf L4).length - 1)) = (1, 0) by decide +kernel] at r
  exact r
theorem ok_num {n : Int} (f : FitsI n) : Va.ok (vNum n) := by
  have a : decide (-1000000000000000000 ≤ n) = true := decide_eq_true f.1
  have b : decide (n ≤ 1000000000000000000) = true := decide_eq_true f.2
  unfold Va.ok Va.chk
  simp [value_Check.f, value_Check.fit, value_Check.bare, a, b, Va.k, Va.n, Va.s, Va.b, Va.c, vNum]
theorem add6 {w : World} {t N : Nat} {s : TS} (h : TRep w t s) (ok : TOk s N L5) (hN : N < 1000000) :
    Calls Try.prog 14 #[.pointer (some ⟨t, 0, none⟩), .agg #[.int .i64 4, .int .i64 0, .string ⟨#[]⟩, .bool false, .int .i64 6]] w fun e w' => e = .returned (.int .i64 0) ∧ ∃ s', TW w t s w' s' ∧ TOk s' (N + 1) (vFault 6 :: L5) := by
  have r := add_ok (x := vFault 6) h ok (by unfold Va.ok Va.chk; decide +kernel) (by decide) hN
  rw [held_fault] at r
  exact r
theorem drop6 {w : World} {t N : Nat} {s : TS} (h : TRep w t s) (ok : TOk s N (vFault 6 :: L5)) :
    Calls Try.prog 15 #[.pointer (some ⟨t, 0, none⟩), .agg #[.int .i64 4, .int .i64 0, .string ⟨#[]⟩, .bool false, .int .i64 6]] w fun e w' => e = .returned (.int .i64 0) ∧ ∃ s', TW w t s w' s' ∧ TOk s' N L5 :=
  drop_plain (x := vFault 6) h ok (by unfold Va.ok Va.chk; decide +kernel) (by decide) (by rw [held_fault])
theorem drop5 {w : World} {t N : Nat} {s : TS} (h : TRep w t s) (ok : TOk s N L5) :
    Calls Try.prog 15 #[.pointer (some ⟨t, 0, none⟩), .agg #[.int .i64 1, .int .i64 5, .string ⟨#[]⟩, .bool false, .int .i64 0]] w fun e w' => e = .returned (.int .i64 0) ∧ ∃ s', TW w t s w' s' ∧ TOk s' N L4 :=
  drop_plain (x := vNum 5) h ok (ok_num ⟨by decide, by decide⟩) (by decide) (by
    rw [held_num]
    exact (List.perm_append_comm (l₁ := L4) (l₂ := [vNum 5])))
theorem exL_at (w : World) (ty : TypeId) : ∀ i, i < exL.length → VaAt (w.alloc (.cells #[.int .i64 1, .int .i64 5, .string ⟨#[]⟩, .bool false, .int .i64 0, .int .i64 1, .int .i64 1, .string ⟨#[]⟩, .bool false, .int .i64 0, .int .i64 2, .int .i64 0, .string ⟨#[120]⟩, .bool false, .int .i64 0,
    .int .i64 1, .int .i64 1, .string ⟨#[]⟩, .bool false, .int .i64 0, .int .i64 3, .int .i64 0, .string ⟨#[]⟩, .bool true, .int .i64 0] ty)) w.heap.size i (exL.getD i vBlank) := by
  intro i hi
  have h := blk_alloc_new w (.cells #[.int .i64 1, .int .i64 5, .string ⟨#[]⟩, .bool false, .int .i64 0, .int .i64 1, .int .i64 1, .string ⟨#[]⟩, .bool false, .int .i64 0, .int .i64 2, .int .i64 0, .string ⟨#[120]⟩, .bool false, .int .i64 0,
    .int .i64 1, .int .i64 1, .string ⟨#[]⟩, .bool false, .int .i64 0, .int .i64 3, .int .i64 0, .string ⟨#[]⟩, .bool true, .int .i64 0] ty)
  match i, hi with
  | 0, _ => exact ⟨(cell_of_blk h).trans rfl, (cell_of_blk h).trans rfl, (cell_of_blk h).trans rfl, (cell_of_blk h).trans rfl, (cell_of_blk h).trans rfl⟩
  | 1, _ => exact ⟨(cell_of_blk h).trans rfl, (cell_of_blk h).trans rfl, (cell_of_blk h).trans rfl, (cell_of_blk h).trans rfl, (cell_of_blk h).trans rfl⟩
  | 2, _ => exact ⟨(cell_of_blk h).trans rfl, (cell_of_blk h).trans rfl, (cell_of_blk h).trans rfl, (cell_of_blk h).trans rfl, (cell_of_blk h).trans rfl⟩
  | 3, _ => exact ⟨(cell_of_blk h).trans rfl, (cell_of_blk h).trans rfl, (cell_of_blk h).trans rfl, (cell_of_blk h).trans rfl, (cell_of_blk h).trans rfl⟩
  | 4, _ => exact ⟨(cell_of_blk h).trans rfl, (cell_of_blk h).trans rfl, (cell_of_blk h).trans rfl, (cell_of_blk h).trans rfl, (cell_of_blk h).trans rfl⟩
theorem of5 (w : World) : Calls Try.prog 58 #[.slice (some ⟨w.heap.size, 0, none⟩) 5 5] (w.alloc (.cells #[.int .i64 1, .int .i64 5, .string ⟨#[]⟩, .bool false, .int .i64 0, .int .i64 1, .int .i64 1, .string ⟨#[]⟩, .bool false, .int .i64 0, .int .i64 2, .int .i64 0, .string ⟨#[120]⟩, .bool false, .int .i64 0,
    .int .i64 1, .int .i64 1, .string ⟨#[]⟩, .bool false, .int .i64 0, .int .i64 3, .int .i64 0, .string ⟨#[]⟩, .bool true, .int .i64 0] 25)) fun e w' => ∃ t s, e = .returned (.pointer (some ⟨t, 0, none⟩)) ∧ Mine w t s w' ∧ TOk s 5 L5 := by
  refine (of_ok (cap := 5) (l := exL) (by decide) (by simp) (exL_at w 25) exL_ok).mono ?_
  rintro e w' ⟨t, s, he, h, ok⟩
  rw [exL_held] at ok
  exact ⟨t, s, he, h.front (below_alloc (Below.refl _ _) _), ok⟩
set_option maxHeartbeats 3200000 in
set_option maxRecDepth 100000 in
theorem lives_calls (w : World) : Calls Try.prog 22 #[] w fun e w' => e = .returned (.bool true) ∧ Below w.heap.size w w' := by
  go_enter Try.func22, Try.ntmps22
  go_wp2_with fail
  with_reducible refine (number_calls 5 _).mono ?_
  rintro e w1 ⟨rfl, b1⟩
  go_wp2_with fail
  with_reducible refine (number_calls 1 _).mono ?_
  rintro e w2 ⟨rfl, b2⟩
  go_wp2_with fail
  with_reducible refine (text_calls _ _).mono ?_
  rintro e w3 ⟨rfl, b3⟩
  go_wp2_with fail
  with_reducible refine (number_calls 1 _).mono ?_
  rintro e w4 ⟨rfl, b4⟩
  have B4 := Aside0.mk (below_step2 (below_step2 (below_step2 b1 b2) b3) b4)
  clear b1 b2 b3 b4
  go_wp2_with fail
  refine (of5 w4).mono ?_
  rintro e w5 ⟨t, s, rfl, h5, ok5⟩
  have T0 := Aside0.mk (h5.front B4.out)
  have K0 := Aside0.mk ok5
  clear h5 ok5
  go_wp2_with fail
  refine (sum5 T0.out.rep K0.out).mono ?_
  rintro e v1 ⟨rfl, hb⟩
  have T1 := Aside0.mk (T0.out.step hb)
  clear hb T0
  go_wp2_with fail
  refine (median5 T1.out.rep K0.out).mono ?_
  rintro e v2 ⟨rfl, hb⟩
  have T2 := Aside0.mk (T1.out.step hb)
  clear hb T1
  go_wp2_with fail
  refine (small5 T2.out.rep K0.out).mono ?_
  rintro e v3 ⟨rfl, hb⟩
  have T3 := Aside0.mk (T2.out.step hb)
  clear hb T2
  go_wp2_with fail
  refine (all_ok T3.out.rep K0.out).mono ?_
  rintro e v4 ⟨rfl, rfl⟩
  have T4 := T3
  clear T3
  go_wp2_with fail
  refine (count5 T4.out.rep K0.out).mono ?_
  rintro e v5 ⟨rfl, hb⟩
  have T5 := Aside0.mk (T4.out.step hb)
  clear hb T4
  go_wp2_with fail
  refine (below5 T5.out.rep K0.out).mono ?_
  rintro e v6 ⟨rfl, hb⟩
  have T6 := Aside0.mk (T5.out.step hb)
  clear hb T5
  go_wp2_with fail
  refine (number_calls 1 _).mono ?_
  rintro e v7 ⟨rfl, hb⟩
  have T7 := Aside0.mk (T6.out.step hb)
  clear hb T6
  go_wp2_with fail
  refine (often5 T7.out.rep K0.out).mono ?_
  rintro e v8 ⟨rfl, hb⟩
  have T8 := Aside0.mk (T7.out.step hb)
  clear hb T7
  go_wp2_with fail
  refine (fault_calls 6 _).mono ?_
  rintro e v9 ⟨rfl, hb⟩
  have T9 := Aside0.mk (T8.out.step hb)
  clear hb T8
  go_wp2_with fail
  refine (add6 T9.out.rep K0.out (by decide)).mono ?_
  rintro e v10 ⟨rfl, s9, tw, ok⟩
  have T10 := Aside0.mk (T9.out.tw tw)
  clear K0
  have K0 := Aside0.mk ok
  clear tw ok T9
  go_wp2_with fail
  refine (sum6 T10.out.rep K0.out).mono ?_
  rintro e v11 ⟨rfl, hb⟩
  have T11 := Aside0.mk (T10.out.step hb)
  clear hb T10
  go_wp2_with fail
  refine (fault_calls 6 _).mono ?_
  rintro e v12 ⟨rfl, hb⟩
  have T12 := Aside0.mk (T11.out.step hb)
  clear hb T11
  go_wp2_with fail
  refine (drop6 T12.out.rep K0.out).mono ?_
  rintro e v13 ⟨rfl, s12, tw, ok⟩
  have T13 := Aside0.mk (T12.out.tw tw)
  clear K0
  have K0 := Aside0.mk ok
  clear tw ok T12
  go_wp2_with fail
  refine (number_calls 5 _).mono ?_
  rintro e v14 ⟨rfl, hb⟩
  have T14 := Aside0.mk (T13.out.step hb)
  clear hb T13
  go_wp2_with fail
  refine (drop5 T14.out.rep K0.out).mono ?_
  rintro e v15 ⟨rfl, s14, tw, ok⟩
  have T15 := Aside0.mk (T14.out.tw tw)
  clear K0
  have K0 := Aside0.mk ok
  clear tw ok T14
  go_wp2_with fail
  refine (greatest4 T15.out.rep K0.out).mono ?_
  rintro e v16 ⟨rfl, hb⟩
  have T16 := Aside0.mk (T15.out.step hb)
  clear hb T15
  go_wp2
  go_ret
  exact ⟨rfl, T16.out.below⟩
end Go.Proofs.Ytlglopainaploaa.Tal
