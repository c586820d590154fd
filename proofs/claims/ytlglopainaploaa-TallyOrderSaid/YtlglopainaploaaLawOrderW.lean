/- What a tally tells does not hang on the order of its values: foolscaplaw20.TallyOrder walked. -/
import Derived.Test.YtlglopainaploaaTalIi
namespace Go.Proofs.Ytlglopainaploaa.Tal
open Go.RowKit Go.Proofs.YtlglopainaploaaW.PrintWords Go.Proofs.YtlglopainaploaaW.PrintLast Go.Proofs.YtlglopainaploaaW.PrintMore
open Go.Proofs.Ytlglopainaploaa.PV Go.Proofs.Ytlglopainaploaa.Pure
set_option linter.unusedVariables false
set_option linter.unusedSimpArgs false

/-- Values in a row, wherever it lies. -/
def VRow (w : World) (a : Option Addr) (l : List Va) : Prop := l = [] ∨ ∃ g o, a = some ⟨g, o, none⟩ ∧ g < w.heap.size ∧ ∀ i, i < l.length →
  w.cell? ⟨g, o + i * 5, none⟩ = some (.int .i64 (l.getD i vBlank).k) ∧ w.cell? ⟨g, o + i * 5 + 1, none⟩ = some (.int .i64 (l.getD i vBlank).n) ∧ w.cell? ⟨g, o + i * 5 + 2, none⟩ = some (.string (l.getD i vBlank).s) ∧ w.cell? ⟨g, o + i * 5 + 3, none⟩ = some (.bool (l.getD i vBlank).b) ∧ w.cell? ⟨g, o + i * 5 + 4, none⟩ = some (.int .i64 (l.getD i vBlank).c)
/-- What is held of values. -/
def hs : List Va → List Va
  | [] => []
  | x :: xs => if x.ok then x.held :: hs xs else hs xs
theorem hs_app : ∀ a c : List Va, hs (a ++ c) = hs a ++ hs c
  | [], c => rfl
  | x :: xs, c => by
    simp only [List.cons_append, hs, hs_app xs c]
    split <;> rfl
theorem hs_len : ∀ l : List Va, (hs l).length ≤ l.length
  | [] => Nat.le_refl _
  | x :: xs => by
    have := hs_len xs
    simp only [hs]
    split <;> simp only [List.length_cons] <;> omega
theorem add_any {w : World} {t N : Nat} {s : TS} {L : List Va} {x : Va} (h : TRep w t s) (ok : TOk s N L) (hl : L.length < 4096) (hN : N < 1000000) :
    Calls Try.prog 14 #[.pointer (some ⟨t, 0, none⟩), x.v] w fun e w' => ∃ r s', e = .returned (.int .i64 r) ∧ TW w t s w' s' ∧ TOk s' (N + 1) (hs [x] ++ L) := by
  by_cases hx : x.ok
  · refine (add_ok h ok hx hl hN).mono ?_
    rintro e w' ⟨he, s', tw, ok'⟩
    exact ⟨0, s', he, tw, by simp only [hs, if_pos hx]; exact ok'⟩
  · refine (add_no h hx).mono ?_
    rintro e w' ⟨he, hb⟩
    exact ⟨2, s, he, (TW.refl h).below hb, by simp only [hs, if_neg hx]; exact ok.mono (Nat.le_succ N)⟩
/-- Two tallies that are made here. -/
structure Two (w : World) (t : Nat) (s : TS) (u : Nat) (r : TS) (w' : World) : Prop where
  one : Mine w t s w'
  two : Mine w u r w'
  dis : ∀ b, domT t s b → ¬ domT u r b
theorem Two.symm {w w' : World} {t u : Nat} {s r : TS} (h : Two w t s u r w') : Two w u r t s w' := ⟨h.two, h.one, fun b h1 h2 => h.dis b h2 h1⟩
theorem Two.step {w w1 w2 : World} {t u : Nat} {s r : TS} (h : Two w t s u r w1) (k : Below w1.heap.size w1 w2) : Two w t s u r w2 := ⟨h.one.step k, h.two.step k, h.dis⟩
theorem Two.tw {w w1 w2 : World} {t u : Nat} {s s' r : TS} (h : Two w t s u r w1) (k : TW w1 t s w2 s') : Two w t s' u r w2 :=
  ⟨h.one.tw k, ⟨h.two.rep.same (fun b hb => k.chg.block b (h.two.rep.lt hb) (fun q => h.dis b q hb)), (h.one.tw k).below, h.two.dom⟩,
    fun b h1 h2 => (k.dom b h1).elim (fun q => h.dis b q h2) (fun q => absurd (h.two.rep.lt h2) (Nat.not_lt.2 q))⟩
theorem Two.tw2 {w w1 w2 : World} {t u : Nat} {s r r' : TS} (h : Two w t s u r w1) (k : TW w1 u r w2 r') : Two w t s u r' w2 := (h.symm.tw k).symm
theorem two_new {w w1 w2 : World} {t u : Nat} {s r : TS} (h : Mine w t s w1) (k : Mine w1 u r w2) : Two w t s u r w2 :=
  ⟨h.step k.below, k.front h.below, fun b h1 h2 => absurd (h.rep.lt h1) (Nat.not_lt.2 (k.dom b h2))⟩
theorem hs_take {l : List Va} {i : Nat} (h : i < l.length) : (hs [l.getD i vBlank] ++ hs (l.take i)).Perm (hs (l.take (i + 1))) := by
  rw [List.take_succ_eq_append_getElem h, hs_app, List.getD_eq_getElem?_getD, List.getElem?_eq_getElem h]
  exact List.perm_append_comm
theorem hs_drop {l : List Va} {i : Nat} (h : i < l.length) : hs (l.drop i) = hs [l.getD i vBlank] ++ hs (l.drop (i + 1)) := by
  rw [← hs_app, List.getD_eq_getElem?_getD, List.getElem?_eq_getElem h, List.drop_eq_getElem_cons h]
  rfl
theorem drop_nil {l : List Va} {i : Nat} (h : l.length ≤ i) : l.drop i = [] := List.drop_eq_nil_of_le h
theorem perm_two (a b c d : List Va) : (b ++ (a ++ (c ++ d))).Perm ((a ++ c) ++ (b ++ d)) := by
  rw [List.append_assoc]
  exact (List.perm_append_comm_assoc b a _).trans ((List.perm_append_comm_assoc b c d).append_left a)
/-- The i-th value, in a world further on. -/
theorem add_none (g o n : Nat) : (⟨g, o, none⟩ : Addr).add n = ⟨g, o + n, none⟩ := by
  unfold Addr.add
  by_cases h : n = 0
  · rw [if_pos h, h]; rfl
  · rw [if_neg h]
theorem VRow.at {w : World} {a : Option Addr} {l : List Va} (h : VRow w a l) {i : Nat} (hi : i < l.length) : ∃ g o, a = some ⟨g, o, none⟩ ∧ (⟨g, o, none⟩ : Addr).add (i * 5) = ⟨g, o + i * 5, none⟩ ∧ ∀ w', Below w.heap.size w w' →
    w'.cell? ⟨g, o + i * 5, none⟩ = some (.int .i64 (l.getD i vBlank).k) ∧ w'.cell? ⟨g, o + i * 5 + 1, none⟩ = some (.int .i64 (l.getD i vBlank).n) ∧ w'.cell? ⟨g, o + i * 5 + 2, none⟩ = some (.string (l.getD i vBlank).s) ∧ w'.cell? ⟨g, o + i * 5 + 3, none⟩ = some (.bool (l.getD i vBlank).b) ∧ w'.cell? ⟨g, o + i * 5 + 4, none⟩ = some (.int .i64 (l.getD i vBlank).c) := by
  rcases h with rfl | ⟨g, o, rfl, hg, hc⟩
  · exact absurd hi (Nat.not_lt_zero _)
  · obtain ⟨c0, c1, c2, c3, c4⟩ := hc i hi
    exact ⟨g, o, rfl, add_none g o _, fun w' b => ⟨(b.cell hg).trans c0, (b.cell hg).trans c1, (b.cell hg).trans c2, (b.cell hg).trans c3, (b.cell hg).trans c4⟩⟩
set_option maxHeartbeats 3200000 in
set_option maxRecDepth 100000 in
theorem order_walk (a a' : Option Addr) (l m : List Va) (cap cap' : Nat) (k : Int) (w : World) (hl : l.length ≤ 200) (hm : m.length ≤ 200) (rl : VRow w a l) (rm : VRow w a' m) :
    Calls Try.prog 5 #[.slice a l.length cap, .slice a' m.length cap', .int .i64 k] w fun e w' => e = .returned (.bool true) ∧ Below w.heap.size w w' := by
  have hu25 := Try.underlying25
  have d1 : decide (200 < (l.length : Int)) = false := decide_eq_false (by omega)
  have d2 : decide (200 < (m.length : Int)) = false := decide_eq_false (by omega)
  have HL := Aside0.mk hl
  have HM := Aside0.mk hm
  have RL := Aside0.mk rl
  have RM := Aside0.mk rm
  clear hl hm rl rm
  go_enter Try.func5, Try.ntmps5
  go_wp2_with fail
  with_reducible refine (new_mine _).mono ?_
  rintro e w1 ⟨rfl, m1⟩
  go_wp2_with fail
  with_reducible refine (new_mine _).mono ?_
  rintro e w2 ⟨rfl, m2⟩
  have T0 := Aside0.mk (two_new m1 m2)
  clear m1 m2
  go_wp2_with fail
  go_loopg [9] l.length (fun kq v9 w' => ∃ i : Nat, v9 = .int .i64 (i : Int) ∧ Aside0 (i + kq = l.length) ∧ Aside0 (∃ s, Two w (w.heap.size + 2) s (w1.heap.size + 2) (TS.new w1.heap.size) w' ∧ TOk s i (hs (l.take i))))
  case atStart => exact ⟨0, rfl, ⟨Nat.zero_add _⟩, ⟨_, T0.out, TOk.new _ 0⟩⟩
  case round =>
    obtain ⟨i, rfl, HI, HT⟩ := hrel
    obtain ⟨s, tt, ok⟩ := HT.out
    have TT := Aside0.mk tt
    have OK := Aside0.mk ok
    clear HT tt ok T0
    cases gk with
    | zero =>
      have e : i = l.length := HI.out
      subst e
      have d3 : decide ((l.length : Int) < (l.length : Int)) = false := decide_eq_false (by omega)
      rw [List.take_length] at OK
      go_wp2_with fail
      go_loopg [10] l.length (fun kq v10 w' => ∃ z : Int, v10 = .int .i64 z ∧ Aside0 (z + 1 = (kq : Int) ∧ kq ≤ l.length) ∧ Aside0 (∃ r, Two w (w.heap.size + 2) s (w1.heap.size + 2) r w' ∧ TOk r (1000 - 2 * kq) (hs (l.drop kq) ++ hs ((m.take l.length).drop kq))))
      case atStart => exact ⟨(l.length : Int) - 1, by rw [w64 (x := (l.length : Int) - 1) (by omega) (by have := HL.out; omega)], ⟨by omega, Nat.le_refl _⟩, ⟨_, TT.out, by
        rw [List.drop_length, List.drop_eq_nil_of_le (by rw [List.length_take]; omega)]
        exact TOk.new _ _⟩⟩
      case round =>
        clear TT HI
        obtain ⟨z, rfl, HZ, HT⟩ := hrel
        obtain ⟨r, tt, okr⟩ := HT.out
        have TT := Aside0.mk tt
        have OR := Aside0.mk okr
        clear HT tt okr
        cases gk with
        | zero =>
          have e : z = -1 := by have := HZ.out; omega
          subst e
          rw [List.drop_zero, List.drop_zero] at OR
          go_wp2_with fail
          go_loopg [11] (m.take l.length).length (fun kq v11 w' => ∃ i : Nat, v11 = .int .i64 (i : Int) ∧ Aside0 (i + kq = (m.take l.length).length) ∧ Aside0 (∃ r, Two w (w.heap.size + 2) s (w1.heap.size + 2) r w' ∧ TOk r (1000 + i) (hs l ++ hs ((m.take l.length).drop i))))
          case atStart => exact ⟨0, rfl, ⟨Nat.zero_add _⟩, ⟨_, TT.out, by rw [List.drop_zero]; exact OR.out⟩⟩
          case round =>
            clear TT OR HZ
            obtain ⟨i, rfl, HI, HT⟩ := hrel
            obtain ⟨r, tt, okr⟩ := HT.out
            have TT := Aside0.mk tt
            have OR := Aside0.mk okr
            have ML := Aside0.mk (List.length_take (i := l.length) (l := m))
            clear HT tt okr
            cases gk with
            | zero =>
              have e : i = (m.take l.length).length := HI.out
              have OR' : Aside0 (TOk r (1000 + i) (hs l)) := ⟨by
                have := OR.out
                rw [drop_nil (by omega)] at this
                simp only [hs, List.append_nil] at this
                exact this⟩
              clear OR
              have OR := OR'
              clear OR'
              by_cases cm : i < m.length
              · have d5 : decide ((i : Int) < (m.length : Int)) = true := decide_eq_true (by omega)
                have d6 : decide (i < m.length) = true := decide_eq_true cm
                have cl : ¬ i < l.length := by have := ML.out; omega
                have d7 : decide ((i : Int) < (l.length : Int)) = false := decide_eq_false (by omega)
                have d8 : decide (i < l.length) = false := decide_eq_false cl
                clear cm cl e
                go_wp2_with fail
                refine (sum_ok TT.out.one.rep OK.out).mono ?_
                rintro e z0 ⟨rfl, hb⟩
                have F0 := Aside0.mk (TT.out.step hb)
                clear hb TT
                go_wp2_with fail
                refine (sum_ok F0.out.two.rep OR.out).mono ?_
                rintro e z1 ⟨rfl, hb⟩
                have F1 := Aside0.mk (F0.out.step hb)
                clear hb F0
                go_wp2_with fail
                refine (median_ok F1.out.one.rep OK.out).mono ?_
                rintro e z2 ⟨rfl, hb⟩
                have F2 := Aside0.mk (F1.out.step hb)
                clear hb F1
                go_wp2_with fail
                refine (median_ok F2.out.two.rep OR.out).mono ?_
                rintro e z3 ⟨rfl, hb⟩
                have F3 := Aside0.mk (F2.out.step hb)
                clear hb F2
                go_wp2_with fail
                refine (small_ok (k := k) F3.out.one.rep OK.out).mono ?_
                rintro e z4 ⟨rfl, hb⟩
                have F4 := Aside0.mk (F3.out.step hb)
                clear hb F3
                go_wp2_with fail
                refine (small_ok (k := k) F4.out.two.rep OR.out).mono ?_
                rintro e z5 ⟨rfl, hb⟩
                have F5 := Aside0.mk (F4.out.step hb)
                clear hb F4
                go_wp2_with fail
                refine (all_ok F5.out.one.rep OK.out).mono ?_
                rintro e z6 ⟨rfl, rfl⟩
                have F6 := F5
                clear F5
                go_wp2_with fail
                refine (all_ok F6.out.two.rep OR.out).mono ?_
                rintro e z7 ⟨rfl, rfl⟩
                have F7 := F6
                clear F6
                go_wp2_with fail
                refine (fault_ok F7.out.one.rep OK.out).mono ?_
                rintro e z8 ⟨rfl, hb⟩
                have F8 := Aside0.mk (F7.out.step hb)
                clear hb F7
                go_wp2_with fail
                refine (fault_ok F8.out.two.rep OR.out).mono ?_
                rintro e z9 ⟨rfl, hb⟩
                have F9 := Aside0.mk (F8.out.step hb)
                clear hb F8
                go_wp2_with fail
                refine (count_ok (k := 2) F9.out.one.rep OK.out (by decide)).mono ?_
                rintro e z10 ⟨rfl, hb⟩
                have F10 := Aside0.mk (F9.out.step hb)
                clear hb F9
                go_wp2_with fail
                refine (count_ok (k := 2) F10.out.two.rep OR.out (by decide)).mono ?_
                rintro e z11 ⟨rfl, hb⟩
                have F11 := Aside0.mk (F10.out.step hb)
                clear hb F10
                go_wp2_with fail
                refine (lives_calls _).mono ?_
                rintro e z12 ⟨rfl, hb⟩
                have F12 := Aside0.mk (F11.out.step hb)
                clear hb F11
                go_wp2
                go_ret
                exact ⟨rfl, F12.out.one.below⟩
              · have d5 : decide ((i : Int) < (m.length : Int)) = false := decide_eq_false (by omega)
                have d6 : decide (i < m.length) = false := decide_eq_false cm
                clear cm e
                go_wp2_with fail
                refine (sum_ok TT.out.one.rep OK.out).mono ?_
                rintro e z0 ⟨rfl, hb⟩
                have F0 := Aside0.mk (TT.out.step hb)
                clear hb TT
                go_wp2_with fail
                refine (sum_ok F0.out.two.rep OR.out).mono ?_
                rintro e z1 ⟨rfl, hb⟩
                have F1 := Aside0.mk (F0.out.step hb)
                clear hb F0
                go_wp2_with fail
                refine (median_ok F1.out.one.rep OK.out).mono ?_
                rintro e z2 ⟨rfl, hb⟩
                have F2 := Aside0.mk (F1.out.step hb)
                clear hb F1
                go_wp2_with fail
                refine (median_ok F2.out.two.rep OR.out).mono ?_
                rintro e z3 ⟨rfl, hb⟩
                have F3 := Aside0.mk (F2.out.step hb)
                clear hb F2
                go_wp2_with fail
                refine (small_ok (k := k) F3.out.one.rep OK.out).mono ?_
                rintro e z4 ⟨rfl, hb⟩
                have F4 := Aside0.mk (F3.out.step hb)
                clear hb F3
                go_wp2_with fail
                refine (small_ok (k := k) F4.out.two.rep OR.out).mono ?_
                rintro e z5 ⟨rfl, hb⟩
                have F5 := Aside0.mk (F4.out.step hb)
                clear hb F4
                go_wp2_with fail
                refine (all_ok F5.out.one.rep OK.out).mono ?_
                rintro e z6 ⟨rfl, rfl⟩
                have F6 := F5
                clear F5
                go_wp2_with fail
                refine (all_ok F6.out.two.rep OR.out).mono ?_
                rintro e z7 ⟨rfl, rfl⟩
                have F7 := F6
                clear F6
                go_wp2_with fail
                refine (fault_ok F7.out.one.rep OK.out).mono ?_
                rintro e z8 ⟨rfl, hb⟩
                have F8 := Aside0.mk (F7.out.step hb)
                clear hb F7
                go_wp2_with fail
                refine (fault_ok F8.out.two.rep OR.out).mono ?_
                rintro e z9 ⟨rfl, hb⟩
                have F9 := Aside0.mk (F8.out.step hb)
                clear hb F8
                go_wp2_with fail
                refine (count_ok (k := 2) F9.out.one.rep OK.out (by decide)).mono ?_
                rintro e z10 ⟨rfl, hb⟩
                have F10 := Aside0.mk (F9.out.step hb)
                clear hb F9
                go_wp2_with fail
                refine (count_ok (k := 2) F10.out.two.rep OR.out (by decide)).mono ?_
                rintro e z11 ⟨rfl, hb⟩
                have F11 := Aside0.mk (F10.out.step hb)
                clear hb F10
                go_wp2_with fail
                refine (lives_calls _).mono ?_
                rintro e z12 ⟨rfl, hb⟩
                have F12 := Aside0.mk (F11.out.step hb)
                clear hb F11
                go_wp2
                go_ret
                exact ⟨rfl, F12.out.one.below⟩
            | succ k2 =>
              have lm : i < m.length := by have := HI.out; have := ML.out; omega
              have ll : i < l.length := by have := HI.out; have := ML.out; omega
              have d5 : decide ((i : Int) < (m.length : Int)) = true := decide_eq_true (by omega)
              have d6 : decide (i < m.length) = true := decide_eq_true lm
              have d7 : decide ((i : Int) < (l.length : Int)) = true := decide_eq_true (by omega)
              have d8 : decide (i < l.length) = true := decide_eq_true ll
              have p1 : (0 ≤ (i : Int)) = True := eq_true (by omega)
              have p2 : ((i : Int) < (m.length : Int)) = True := eq_true (by omega)
              have p3 : (i < m.length) = True := eq_true lm
              have wi : wrap64 ((i : Int) + 1) = ((i + 1 : Nat) : Int) := by have := HM.out; unfold wrap64; omega
              have WI := Aside0.mk wi
              have HQ := Aside0.mk (show hs ((m.take l.length).drop i) = hs [m.getD i vBlank] ++ hs ((m.take l.length).drop (i + 1)) by
                have h := hs_drop (l := m.take l.length) (i := i) (by have := ML.out; omega)
                rw [h]
                have e : (m.take l.length).getD i vBlank = m.getD i vBlank := by
                  rw [List.getD_eq_getElem?_getD, List.getD_eq_getElem?_getD, List.getElem?_take_of_lt ll]
                rw [e])
              obtain ⟨g', o', rfl, ha, hc⟩ := RM.out.at lm
              have HC := Aside0.mk hc
              obtain ⟨c0, c1, c2, c3, c4⟩ := hc _ TT.out.one.below
              generalize m.getD i vBlank = Y at *
              obtain ⟨yk, yn, ys, yb, yc⟩ := Y
              dsimp only [Va.k, Va.n, Va.s, Va.b, Va.c] at c0 c1 c2 c3 c4
              have LI := Aside0.mk lm
              clear lm ll hc wi
              go_wp2_with fail
              have ck := check_calls (w := wr) (yk, yn, ys, yb, yc)
              by_cases ok : Va.ok (yk, yn, ys, yb, yc)
              · rw [if_pos ok] at ck
                have OV := Aside0.mk ok
                clear ok
                refine ck.mono ?_
                rintro e y1 ⟨rfl, hb⟩
                have T1 := Aside0.mk (TT.out.step hb)
                clear hb ck TT c0 c1 c2 c3 c4
                obtain ⟨c0, c1, c2, c3, c4⟩ := HC.out _ T1.out.one.below
                dsimp only [Va.k, Va.n, Va.s, Va.b, Va.c] at c0 c1 c2 c3 c4
                go_wp2_with fail
                refine (drop_ok (x := (yk, yn, ys, yb, yc)) (M := hs l ++ hs ((m.take l.length).drop (i + 1))) T1.out.two.rep OR.out OV.out (by
                  rw [HQ.out]
                  simp only [hs, if_pos OV.out]
                  exact List.perm_middle) (by have := LI.out; have := HM.out; omega)).mono ?_
                rintro e y2 ⟨rfl, r1, tw, ok1⟩
                have N1 := Aside0.mk (⟨r1, T1.out.tw2 tw, ok1⟩ : ∃ r', Two w (w.heap.size + 2) s (w1.heap.size + 2) r' y2 ∧ TOk r' (1000 + (i + 1)) (hs l ++ hs ((m.take l.length).drop (i + 1))))
                clear tw ok1 c0 c1 c2 c3 c4 ha
                go_wp2_with fail
                go_roundg k2
                case measure => omega
                case rel => exact ⟨i + 1, by rw [WI.out], ⟨by have := HI.out; omega⟩, N1⟩
              · rw [if_neg ok] at ck
                refine ck.mono ?_
                rintro e y1 ⟨rfl, hb⟩
                have T1 := Aside0.mk (TT.out.step hb)
                have N1 := Aside0.mk (⟨r, T1.out, by
                  have o := OR.out
                  rw [HQ.out] at o
                  simp only [hs, if_neg ok, List.nil_append] at o
                  exact o.mono (by omega)⟩ : ∃ r', Two w (w.heap.size + 2) s (w1.heap.size + 2) r' y1 ∧ TOk r' (1000 + (i + 1)) (hs l ++ hs ((m.take l.length).drop (i + 1))))
                clear hb ck TT c0 c1 c2 c3 c4 ha ok
                go_wp2_with fail
                go_roundg k2
                case measure => omega
                case rel => exact ⟨i + 1, by rw [WI.out], ⟨by have := HI.out; omega⟩, N1⟩
        | succ k1 =>
          have e : z = (k1 : Int) := by have := HZ.out; omega
          subst e
          have lt : k1 < l.length := by have := HZ.out; omega
          have d5 : decide ((0 : Int) ≤ (k1 : Int)) = true := decide_eq_true (by omega)
          have p1 : (0 ≤ (k1 : Int)) = True := eq_true (by omega)
          have p2 : ((k1 : Int) < (l.length : Int)) = True := eq_true (by omega)
          have p3 : (k1 < l.length) = True := eq_true lt
          have wi : wrap64 ((k1 : Int) - 1) = (k1 : Int) - 1 := w64 (by omega) (by have := HL.out; omega)
          have WI := Aside0.mk wi
          have HP := Aside0.mk (hs_drop lt)
          have LT := Aside0.mk lt
          obtain ⟨g, o, rfl, ha, hc⟩ := RL.out.at lt
          obtain ⟨c0, c1, c2, c3, c4⟩ := hc _ TT.out.one.below
          generalize l.getD k1 vBlank = X at *
          obtain ⟨xk, xn, xs, xb, xc⟩ := X
          dsimp only [Va.k, Va.n, Va.s, Va.b, Va.c] at c0 c1 c2 c3 c4
          have LE := Aside0.mk (show (hs (l.drop (k1 + 1)) ++ hs ((m.take l.length).drop (k1 + 1))).length ≤ 500 by
            have h1 := hs_len (l.drop (k1 + 1))
            have h2 := hs_len ((m.take l.length).drop (k1 + 1))
            have := HL.out
            rw [List.length_append]
            simp only [List.length_drop, List.length_take] at h1 h2
            omega)
          clear wi lt hc
          go_wp2_with fail
          refine (add_any (x := (xk, xn, xs, xb, xc)) TT.out.two.rep OR.out (by have := LE.out; omega) (by omega)).mono ?_
          rintro e w3 ⟨q, r1, rfl, tw, ok1⟩
          have T1 := Aside0.mk (TT.out.tw2 tw)
          have O1 := Aside0.mk ok1
          clear tw ok1 c0 c1 c2 c3 c4 ha p2 p3 TT OR
          by_cases cm : k1 < m.length
          · have d6 : decide ((k1 : Int) < (m.length : Int)) = true := decide_eq_true (by omega)
            have d7 : decide (k1 < m.length) = true := decide_eq_true cm
            have p4 : ((k1 : Int) < (m.length : Int)) = True := eq_true (by omega)
            have p5 : (k1 < m.length) = True := eq_true cm
            have HQ := Aside0.mk (show hs ((m.take l.length).drop k1) = hs [m.getD k1 vBlank] ++ hs ((m.take l.length).drop (k1 + 1)) by
              have h := hs_drop (l := m.take l.length) (i := k1) (by rw [List.length_take]; have := LT.out; omega)
              rw [h]
              have e : (m.take l.length).getD k1 vBlank = m.getD k1 vBlank := by
                rw [List.getD_eq_getElem?_getD, List.getD_eq_getElem?_getD, List.getElem?_take_of_lt LT.out]
              rw [e])
            obtain ⟨g', o', rfl, ha, hc⟩ := RM.out.at cm
            obtain ⟨c0, c1, c2, c3, c4⟩ := hc _ T1.out.one.below
            generalize m.getD k1 vBlank = Y at *
            obtain ⟨yk, yn, ys, yb, yc⟩ := Y
            dsimp only [Va.k, Va.n, Va.s, Va.b, Va.c] at c0 c1 c2 c3 c4
            clear cm hc
            go_wp2_with fail
            refine (add_any (x := (yk, yn, ys, yb, yc)) T1.out.two.rep O1.out (by have := LE.out; have h3 := hs_len [(xk, xn, xs, xb, xc)]; rw [List.length_append]; simp only [List.length_singleton] at h3; omega) (by omega)).mono ?_
            rintro e w4 ⟨q2, r2, rfl, tw, ok2⟩
            have N2 := Aside0.mk (⟨r2, T1.out.tw2 tw, (ok2.mono (by have := HZ.out; have := HL.out; omega)).perm (by
              rw [HP.out, HQ.out]
              exact perm_two _ _ _ _)⟩ : ∃ r', Two w (w.heap.size + 2) s (w1.heap.size + 2) r' w4 ∧ TOk r' (1000 - 2 * k1) (hs (l.drop k1) ++ hs ((m.take l.length).drop k1)))
            clear tw ok2 c0 c1 c2 c3 c4 ha
            go_wp2_with fail
            go_roundg k1
            case measure => omega
            case rel => exact ⟨(k1 : Int) - 1, by rw [WI.out], ⟨by omega, by have := HZ.out; omega⟩, N2⟩
          · have d6 : decide ((k1 : Int) < (m.length : Int)) = false := decide_eq_false (by omega)
            have d7 : decide (k1 < m.length) = false := decide_eq_false cm
            have N2 := Aside0.mk (⟨r1, T1.out, (O1.out.mono (by have := HZ.out; have := HL.out; omega)).perm (by
              rw [HP.out]
              rw [drop_nil (l := m.take l.length) (i := k1) (by rw [List.length_take]; omega), drop_nil (l := m.take l.length) (i := k1 + 1) (by rw [List.length_take]; omega), List.append_assoc])⟩ : ∃ r', Two w (w.heap.size + 2) s (w1.heap.size + 2) r' w3 ∧ TOk r' (1000 - 2 * k1) (hs (l.drop k1) ++ hs ((m.take l.length).drop k1)))
            clear cm
            go_wp2_with fail
            go_roundg k1
            case measure => omega
            case rel => exact ⟨(k1 : Int) - 1, by rw [WI.out], ⟨by omega, by have := HZ.out; omega⟩, N2⟩
    | succ k1 =>
      have lt : i < l.length := by have := HI.out; omega
      have d3 : decide ((i : Int) < (l.length : Int)) = true := decide_eq_true (by omega)
      have d4 : decide (i < l.length) = true := decide_eq_true lt
      have p1 : (0 ≤ (i : Int)) = True := eq_true (by omega)
      have p2 : ((i : Int) < (l.length : Int)) = True := eq_true (by omega)
      have p3 : (i < l.length) = True := eq_true lt
      have wi : wrap64 ((i : Int) + 1) = ((i + 1 : Nat) : Int) := by have := HL.out; unfold wrap64; omega
      have WI := Aside0.mk wi
      have HP := Aside0.mk (hs_take lt)
      obtain ⟨g, o, rfl, ha, hc⟩ := RL.out.at lt
      obtain ⟨c0, c1, c2, c3, c4⟩ := hc _ TT.out.one.below
      generalize l.getD i vBlank = X at *
      obtain ⟨xk, xn, xs, xb, xc⟩ := X
      dsimp only [Va.k, Va.n, Va.s, Va.b, Va.c] at c0 c1 c2 c3 c4
      clear wi lt hc
      go_wp2_with fail
      refine (add_any (x := (xk, xn, xs, xb, xc)) TT.out.one.rep OK.out (by have := hs_len (l.take i); have := HL.out; simp only [List.length_take] at *; omega) (by have := HI.out; have := HL.out; omega)).mono ?_
      rintro e w3 ⟨q, s', rfl, tw, ok'⟩
      have N1 := Aside0.mk (⟨s', TT.out.tw tw, ok'.perm HP.out⟩ : ∃ s', Two w (w.heap.size + 2) s' (w1.heap.size + 2) (TS.new w1.heap.size) w3 ∧ TOk s' (i + 1) (hs (l.take (i + 1))))
      clear tw ok' c0 c1 c2 c3 c4 ha
      go_wp2_with fail
      go_roundg k1
      case measure => omega
      case rel => exact ⟨i + 1, by rw [WI.out], ⟨by have := HI.out; omega⟩, N1⟩
set_option maxHeartbeats 3200000 in
set_option maxRecDepth 100000 in
theorem order_out (a a' : Option Addr) (l m : List Va) (cap cap' : Nat) (k : Int) (w : World) (h : 200 < l.length ∨ 200 < m.length) : Calls Try.prog 5 #[.slice a l.length cap, .slice a' m.length cap', .int .i64 k] w fun e w' => e = .returned (.bool true) ∧ Below w.heap.size w w' := by
  by_cases c : 200 < l.length
  · have d1 : decide (200 < (l.length : Int)) = true := decide_eq_true (by omega)
    have d2 : decide (200 < l.length) = true := decide_eq_true c
    clear c h
    go_enter Try.func5, Try.ntmps5
    go_wp2_with fail
    with_reducible refine (lives_calls _).mono ?_
    rintro e w1 ⟨rfl, b1⟩
    have B1 := Aside0.mk b1
    clear b1
    go_wp2
    go_ret
    exact ⟨rfl, B1.out⟩
  · have d1 : decide (200 < (l.length : Int)) = false := decide_eq_false (by omega)
    have d2 : decide (200 < l.length) = false := decide_eq_false c
    have d3 : decide (200 < (m.length : Int)) = true := decide_eq_true (by omega)
    have d4 : decide (200 < m.length) = true := decide_eq_true (h.resolve_left c)
    clear c h
    go_enter Try.func5, Try.ntmps5
    go_wp2_with fail
    with_reducible refine (lives_calls _).mono ?_
    rintro e w1 ⟨rfl, b1⟩
    have B1 := Aside0.mk b1
    clear b1
    go_wp2
    go_ret
    exact ⟨rfl, B1.out⟩
theorem order_all (a a' : Option Addr) (l m : List Va) (cap cap' : Nat) (k : Int) (w : World) (rl : VRow w a l) (rm : VRow w a' m) : Calls Try.prog 5 #[.slice a l.length cap, .slice a' m.length cap', .int .i64 k] w fun e w' => e = .returned (.bool true) ∧ Below w.heap.size w w' := by
  by_cases h : 200 < l.length ∨ 200 < m.length
  · exact order_out a a' l m cap cap' k w h
  · exact order_walk a a' l m cap cap' k w (by omega) (by omega) rl rm
end Go.Proofs.Ytlglopainaploaa.Tal
