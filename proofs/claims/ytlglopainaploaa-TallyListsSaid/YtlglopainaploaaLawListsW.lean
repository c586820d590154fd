/- A tally of numbers tells what is told of their list: foolscaplaw20.TallyLists walked. -/
import Derived.Test.YtlglopainaploaaLawListsP
import Derived.Test.YtlglopainaploaaTalMean
import Derived.Test.YtlglopainaploaaTalIi
namespace Go.Proofs.Ytlglopainaploaa.Tal
open Go.RowKit Go.Proofs.YtlglopainaploaaW.PrintWords Go.Proofs.YtlglopainaploaaW.PrintLast Go.Proofs.YtlglopainaploaaW.PrintMore
open Go.Proofs.Ytlglopainaploaa.PL Go.Proofs.Ytlglopainaploaa.Pure
set_option linter.unusedVariables false
set_option linter.unusedSimpArgs false
theorem fits_decide (x : Int) : (decide (-1000000000000000000 ≤ x) && decide (x ≤ 1000000000000000000)) = decide (FitsI x) := by
  by_cases f : FitsI x
  · rw [decide_eq_true f, decide_eq_true f.1, decide_eq_true f.2]; rfl
  · rw [decide_eq_false f]
    by_cases a : -1000000000000000000 ≤ x
    · rw [decide_eq_true a, decide_eq_false (fun b => f ⟨a, b⟩)]; rfl
    · rw [decide_eq_false a]; rfl
theorem fits_calls (x : Int) (w : World) : Calls Try.prog 25 #[.int .i64 x] w fun e w' => e = .returned (.bool (decide (FitsI x))) ∧ w' = w := by
  rw [← fits_decide]
  exact value_Check.fits x w
theorem not_ok_num {n : Int} (f : ¬ FitsI n) : ¬ Va.ok (vNum n) := fun h => by
  rcases Va.ok_cases h with e | ⟨m, hm, e⟩ | ⟨s, hs, e⟩ | ⟨b, e⟩ | ⟨c, c1, c8, e⟩
  · injection e with e _; exact absurd e (by decide)
  · injection e with _ e; injection e with e _; subst e; exact f hm
  · injection e with e _; exact absurd e (by decide)
  · injection e with e _; exact absurd e (by decide)
  · injection e with e _; exact absurd e (by decide)
theorem rev_take {l : List Int} {i : Nat} (h : i < l.length) : ((l.take (i + 1)).map vNum).reverse = vNum l[i] :: ((l.take i).map vNum).reverse := by
  rw [List.take_succ_eq_append_getElem h, List.map_append, List.reverse_append]
  rfl
theorem lsum {w : World} {t N : Nat} {s : TS} {l : List Int} (h : TRep w t s) (ok : TOk s N (l.map vNum).reverse) :
    Calls Try.prog 9 #[.pointer (some ⟨t, 0, none⟩)] w fun q w' => q = .returned (.tuple #[.int .i64 (sumA l).1, .int .i64 (sumA l).2]) ∧ Below w.heap.size w w' := by
  have r := sum_ok h ok
  rw [ask_rev, sumA_perm (nums_rev l)] at r
  exact r
theorem lmean {w : World} {t N : Nat} {s : TS} {l : List Int} (h : TRep w t s) (ok : TOk s N (l.map vNum).reverse) :
    Calls Try.prog 10 #[.pointer (some ⟨t, 0, none⟩)] w fun q w' => q = .returned (.tuple #[.int .i64 (meanA l).1, .int .i64 (meanA l).2]) ∧ Below w.heap.size w w' := by
  have r := mean_ok h ok
  rw [ask_rev, meanA_perm (nums_rev l)] at r
  exact r
theorem lmedian {w : World} {t N : Nat} {s : TS} {l : List Int} (h : TRep w t s) (ok : TOk s N (l.map vNum).reverse) :
    Calls Try.prog 12 #[.pointer (some ⟨t, 0, none⟩)] w fun q w' => q = .returned (.tuple #[.int .i64 (medA l).1, .int .i64 (medA l).2]) ∧ Below w.heap.size w w' := by
  have r := median_ok h ok
  rw [ask_rev, medA_perm (nums_rev l)] at r
  exact r
theorem lsmall {w : World} {t N : Nat} {s : TS} {l : List Int} {k : Int} (h : TRep w t s) (ok : TOk s N (l.map vNum).reverse) :
    Calls Try.prog 11 #[.pointer (some ⟨t, 0, none⟩), .int .i64 k] w fun q w' => q = .returned (.tuple #[.int .i64 (smallA l k).1, .int .i64 (smallA l k).2]) ∧ Below w.heap.size w w' := by
  have r := small_ok (k := k) h ok
  rw [ask_rev, smallA_perm (nums_rev l)] at r
  exact r
theorem lleast {w : World} {t N : Nat} {s : TS} {l : List Int} (h : TRep w t s) (ok : TOk s N (l.map vNum).reverse) :
    Calls Try.prog 13 #[.pointer (some ⟨t, 0, none⟩)] w fun q w' => q = .returned (.tuple #[.int .i64 (endA l 0).1, .int .i64 (endA l 0).2]) ∧ Below w.heap.size w w' := by
  have r := least_ok h ok
  rw [ask_rev, endA_perm (nums_rev l)] at r
  exact r
theorem lgreatest {w : World} {t N : Nat} {s : TS} {l : List Int} (h : TRep w t s) (ok : TOk s N (l.map vNum).reverse) :
    Calls Try.prog 31 #[.pointer (some ⟨t, 0, none⟩)] w fun q w' => q = .returned (.tuple #[.int .i64 (endA l (l.length - 1)).1, .int .i64 (endA l (l.length - 1)).2]) ∧ Below w.heap.size w w' := by
  have r := greatest_ok h ok
  rw [ask_rev, endA_perm (nums_rev l), (nums_rev l).length_eq] at r
  exact r
theorem ssum {w : World} {A0 : Option Addr} {c0 : Nat} {l : List Int} (hr : Kd.C (Kd.int .i64) w A0 l.length l) (hc : l.length ≤ c0) (g : GoodL l) :
    Calls Try.prog 26 #[.slice A0 l.length c0] w fun q w' => q = .returned (.tuple #[.int .i64 (sumA l).1, .int .i64 (sumA l).2]) ∧ Below w.heap.size w w' := by
  obtain ⟨n, hn⟩ := (sum_l g).rounds
  exact stats_Sum.calls n A0 c0 l (sumA l).1 (sumA l).2 w hr hc hn
theorem smean {w : World} {A0 : Option Addr} {c0 : Nat} {l : List Int} (hr : Kd.C (Kd.int .i64) w A0 l.length l) (hc : l.length ≤ c0) (g : GoodL l) :
    Calls Try.prog 27 #[.slice A0 l.length c0] w fun q w' => q = .returned (.tuple #[.int .i64 (meanA l).1, .int .i64 (meanA l).2]) ∧ Below w.heap.size w w' := by
  obtain ⟨n, hn⟩ := (mean_l g).rounds
  exact stats_Mean.calls n A0 c0 l (meanA l).1 (meanA l).2 w hr hc hn
theorem smedian {w : World} {A0 : Option Addr} {c0 : Nat} {l : List Int} (hr : Kd.C (Kd.int .i64) w A0 l.length l) (hc : l.length ≤ c0) (g : GoodL l) :
    Calls Try.prog 28 #[.slice A0 l.length c0] w fun q w' => q = .returned (.tuple #[.int .i64 (medA l).1, .int .i64 (medA l).2]) ∧ Below w.heap.size w w' := by
  obtain ⟨n, hn⟩ := (median_l g).rounds
  exact stats_Median.calls n A0 c0 l (medA l).1 (medA l).2 w hr hc hn
theorem ssmall {w : World} {A0 : Option Addr} {c0 : Nat} {l : List Int} {k : Int} (hr : Kd.C (Kd.int .i64) w A0 l.length l) (hc : l.length ≤ c0) (g : GoodL l) :
    Calls Try.prog 29 #[.slice A0 l.length c0, .int .i64 k] w fun q w' => q = .returned (.tuple #[.int .i64 (smallA l k).1, .int .i64 (smallA l k).2]) ∧ Below w.heap.size w w' := by
  obtain ⟨n, hn⟩ := (small_l g k).rounds
  exact stats_Small.calls n A0 c0 l k (smallA l k).1 (smallA l k).2 w hr hc hn
theorem sleast {w : World} {A0 : Option Addr} {c0 : Nat} {l : List Int} (hr : Kd.C (Kd.int .i64) w A0 l.length l) (hc : l.length ≤ c0) (g : GoodL l) :
    Calls Try.prog 30 #[.slice A0 l.length c0] w fun q w' => q = .returned (.tuple #[.int .i64 (endA l 0).1, .int .i64 (endA l 0).2]) ∧ Below w.heap.size w w' := by
  obtain ⟨n, hn⟩ := (least_l g).rounds
  exact stats_Least.calls n A0 c0 l (endA l 0).1 (endA l 0).2 w hr hc hn
theorem sgreatest {w : World} {A0 : Option Addr} {c0 : Nat} {l : List Int} (hr : Kd.C (Kd.int .i64) w A0 l.length l) (hc : l.length ≤ c0) (g : GoodL l) :
    Calls Try.prog 32 #[.slice A0 l.length c0] w fun q w' => q = .returned (.tuple #[.int .i64 (endA l (l.length - 1)).1, .int .i64 (endA l (l.length - 1)).2]) ∧ Below w.heap.size w w' := by
  obtain ⟨n, hn⟩ := (greatest_l g).rounds
  exact stats_Greatest.calls n A0 c0 l (endA l (l.length - 1)).1 (endA l (l.length - 1)).2 w hr hc hn
set_option maxHeartbeats 3200000 in
set_option maxRecDepth 100000 in
theorem lists_walk (A0 : Option Addr) (c0 : Nat) (l : List Int) (k : Int) (w : World) (hr0 : Kd.C (Kd.int .i64) w A0 l.length l) (hc0 : l.length ≤ c0) (hlen : l.length ≤ 1000) :
    Calls Try.prog 4 #[.slice A0 l.length c0, .int .i64 k] w fun e w' => e = .returned (.bool true) ∧ Below w.heap.size w w' := by
  have d1 : decide (1000 < (l.length : Int)) = false := decide_eq_false (by omega)
  have d2 : decide (1000 < l.length) = false := decide_eq_false (by omega)
  have HR0 := Aside0.mk hr0
  have HC0 := Aside0.mk hc0
  have HL := Aside0.mk hlen
  clear hr0 hc0 hlen
  go_enter Try.func4, Try.ntmps4
  go_wp2_with fail
  with_reducible refine (new_mine _).mono ?_
  rintro e w1 ⟨rfl, m1⟩
  have M0 := Aside0.mk m1
  clear m1
  go_wp2_with fail
  go_loopg [6] l.length (fun kq v6 w' => ∃ i : Nat, v6 = .int .i64 (i : Int) ∧ Aside0 (i + kq = l.length) ∧ Aside0 (∀ x ∈ l.take i, FitsI x) ∧ Aside0 (∃ s, Mine w (w.heap.size + 2) s w' ∧ TOk s i ((l.take i).map vNum).reverse))
  case atStart => exact ⟨0, rfl, ⟨Nat.zero_add _⟩, ⟨fun x hx => by rw [List.take_zero] at hx; cases hx⟩, ⟨_, M0.out, TOk.new _ 0⟩⟩
  case round =>
    obtain ⟨i, rfl, HI, HF, HT⟩ := hrel
    obtain ⟨s, mi, ok⟩ := HT.out
    have MI := Aside0.mk mi
    have OK := Aside0.mk ok
    clear HT mi ok M0
    cases gk with
    | zero =>
      have e : i = l.length := HI.out
      subst e
      have d3 : decide ((l.length : Int) < (l.length : Int)) = false := decide_eq_false (by omega)
      rw [List.take_length] at OK HF
      have GL : Aside0 (GoodL l) := ⟨⟨by have := HL.out; omega, HF.out⟩⟩
      have HR := Aside0.mk (Kd.C_below HR0.out MI.out.below)
      clear HF HI
      go_wp2_with fail
      refine (lsum MI.out.rep OK.out).mono ?_
      rintro e z0 ⟨rfl, hb⟩
      have N0 := Aside0.mk (MI.out.step hb)
      clear hb MI
      go_wp2_with fail
      refine (ssum (Kd.C_below HR0.out N0.out.below) HC0.out GL.out).mono ?_
      rintro e z1 ⟨rfl, hb⟩
      have N1 := Aside0.mk (N0.out.step hb)
      clear hb N0
      go_wp2_with fail
      refine (lmean N1.out.rep OK.out).mono ?_
      rintro e z2 ⟨rfl, hb⟩
      have N2 := Aside0.mk (N1.out.step hb)
      clear hb N1
      go_wp2_with fail
      refine (smean (Kd.C_below HR0.out N2.out.below) HC0.out GL.out).mono ?_
      rintro e z3 ⟨rfl, hb⟩
      have N3 := Aside0.mk (N2.out.step hb)
      clear hb N2
      go_wp2_with fail
      refine (lmedian N3.out.rep OK.out).mono ?_
      rintro e z4 ⟨rfl, hb⟩
      have N4 := Aside0.mk (N3.out.step hb)
      clear hb N3
      go_wp2_with fail
      refine (smedian (Kd.C_below HR0.out N4.out.below) HC0.out GL.out).mono ?_
      rintro e z5 ⟨rfl, hb⟩
      have N5 := Aside0.mk (N4.out.step hb)
      clear hb N4
      go_wp2_with fail
      refine (lsmall (k := k) N5.out.rep OK.out).mono ?_
      rintro e z6 ⟨rfl, hb⟩
      have N6 := Aside0.mk (N5.out.step hb)
      clear hb N5
      go_wp2_with fail
      refine (ssmall (k := k) (Kd.C_below HR0.out N6.out.below) HC0.out GL.out).mono ?_
      rintro e z7 ⟨rfl, hb⟩
      have N7 := Aside0.mk (N6.out.step hb)
      clear hb N6
      go_wp2_with fail
      refine (lleast N7.out.rep OK.out).mono ?_
      rintro e z8 ⟨rfl, hb⟩
      have N8 := Aside0.mk (N7.out.step hb)
      clear hb N7
      go_wp2_with fail
      refine (sleast (Kd.C_below HR0.out N8.out.below) HC0.out GL.out).mono ?_
      rintro e z9 ⟨rfl, hb⟩
      have N9 := Aside0.mk (N8.out.step hb)
      clear hb N8
      go_wp2_with fail
      refine (lgreatest N9.out.rep OK.out).mono ?_
      rintro e z10 ⟨rfl, hb⟩
      have N10 := Aside0.mk (N9.out.step hb)
      clear hb N9
      go_wp2_with fail
      refine (sgreatest (Kd.C_below HR0.out N10.out.below) HC0.out GL.out).mono ?_
      rintro e z11 ⟨rfl, hb⟩
      have N11 := Aside0.mk (N10.out.step hb)
      clear hb N10
      go_wp2_with fail
      refine (lives_calls _).mono ?_
      rintro e z12 ⟨rfl, hb⟩
      have N12 := Aside0.mk (N11.out.step hb)
      clear hb N11
      go_wp2
      go_ret
      exact ⟨rfl, N12.out.below⟩
    | succ k1 =>
      have lt : i < l.length := by have := HI.out; omega
      have d3 : decide ((i : Int) < (l.length : Int)) = true := decide_eq_true (by omega)
      have d4 : decide (i < l.length) = true := decide_eq_true lt
      have p1 : (0 ≤ (i : Int)) = True := eq_true (by omega)
      have p2 : ((i : Int) < (l.length : Int)) = True := eq_true (by omega)
      have p3 : (i < l.length) = True := eq_true lt
      have wi : wrap64 ((i : Int) + 1) = ((i + 1 : Nat) : Int) := by have := HL.out; unfold wrap64; omega
      have WI := Aside0.mk wi
      obtain ⟨ad, ea, hx0⟩ := Kd.at_int HR0.out (i : Int) (by omega) (by omega)
      rw [Int.toNat_natCast, rd_get l i lt] at hx0
      have HX := Aside0.mk hx0
      have hlt := World.block_lt_of_cell? w _ hx0
      have HLT := Aside0.mk hlt
      have hx := (MI.out.below.cell hlt).trans hx0
      have RT := Aside0.mk (rev_take lt)
      have TK : Aside0 (l.take (i + 1) = l.take i ++ [l[i]]) := ⟨List.take_succ_eq_append_getElem lt⟩
      generalize l[i] = x at *
      cases ea
      clear wi lt hx0 hlt
      go_wp2_with fail
      with_reducible refine (number_calls x _).mono ?_
      rintro e y1 ⟨rfl, hb⟩
      have M1 := Aside0.mk (MI.out.step hb)
      clear hb hx MI
      go_wp2_with fail
      by_cases f : FitsI x
      · have HFX := Aside0.mk f
        have dn : decide (FitsI x) = true := decide_eq_true f
        clear f
        refine (add_ok (x := vNum x) M1.out.rep OK.out (ok_num HFX.out) (by simp only [List.length_reverse, List.length_map, List.length_take]; have := HL.out; omega) (by have := HI.out; have := HL.out; omega)).mono ?_
        rintro e y2 ⟨rfl, s', tw, ok'⟩
        rw [held_num] at ok'
        have M2 := Aside0.mk (M1.out.tw tw)
        have O2 : Aside0 (TOk s' (i + 1) ((l.take (i + 1)).map vNum).reverse) := ⟨by rw [RT.out]; exact ok'⟩
        have F2 : Aside0 (∀ y ∈ l.take (i + 1), FitsI y) := ⟨fun y hy => by
          rw [TK.out] at hy
          rcases List.mem_append.1 hy with h | h
          · exact HF.out y h
          · rw [List.mem_singleton.1 h]; exact HFX.out⟩
        have hx := (M2.out.below.cell HLT.out).trans HX.out
        clear tw ok' M1 OK
        go_wp2_with fail
        refine (fits_calls x _).mono ?_
        rintro e y3 ⟨rfl, rfl⟩
        rw [dn]
        clear hx dn
        go_wp2_with fail
        go_roundg k1
        case measure => omega
        case rel => exact ⟨i + 1, by rw [WI.out], ⟨by have := HI.out; omega⟩, F2, ⟨s', M2.out, O2.out⟩⟩
      · have NF := Aside0.mk (not_ok_num f)
        have dn : decide (FitsI x) = false := decide_eq_false f
        clear f
        refine (add_no (x := vNum x) M1.out.rep NF.out).mono ?_
        rintro e y2 ⟨rfl, hb⟩
        have M2 := Aside0.mk (M1.out.step hb)
        have hx := (M2.out.below.cell HLT.out).trans HX.out
        clear hb M1
        go_wp2_with fail
        refine (fits_calls x _).mono ?_
        rintro e y3 ⟨rfl, rfl⟩
        rw [dn]
        clear hx dn
        go_wp2_with fail
        with_reducible refine (lives_calls _).mono ?_
        rintro e y4 ⟨rfl, hb⟩
        have B4 := Aside0.mk (below_step2 M2.out.below hb)
        clear hb
        go_wp2
        go_ret
        exact ⟨rfl, B4.out⟩
set_option maxHeartbeats 3200000 in
set_option maxRecDepth 100000 in
theorem lists_out (A0 : Option Addr) (c0 : Nat) (l : List Int) (k : Int) (w : World) (h : 1000 < l.length) :
    Calls Try.prog 4 #[.slice A0 l.length c0, .int .i64 k] w fun e w' => e = .returned (.bool true) ∧ Below w.heap.size w w' := by
  have d1 : decide (1000 < (l.length : Int)) = true := decide_eq_true (by omega)
  have d2 : decide (1000 < l.length) = true := decide_eq_true h
  clear h
  go_enter Try.func4, Try.ntmps4
  go_wp2_with fail
  with_reducible refine (lives_calls _).mono ?_
  rintro e w1 ⟨rfl, b1⟩
  have B1 := Aside0.mk b1
  clear b1
  go_wp2
  go_ret
  exact ⟨rfl, B1.out⟩
theorem lists_all (a0 : Option Addr) (len0 cap0 : Nat) (z0 : List Int) (k : Int) (w : World) (w0 : (a0 = none ∧ len0 = 0 ∧ cap0 = 0 ∧ z0 = []) ∨ ∃ x, a0 = some x ∧ len0 ≤ cap0 ∧ cap0 ≤ maxLen ∧ z0.length = cap0 ∧ (∀ i, i < z0.length → w.cell? (x.add i) = some (.int .i64 (z0.getD i 0))) ∧ ∀ n ∈ z0, (Lit.int .i64 n).wf = true) :
    Calls Try.prog 4 #[.slice a0 len0 cap0, .int .i64 k] w fun e w' => e = .returned (.bool true) ∧ Below w.heap.size w w' := by
  obtain ⟨l0, rfl, hr0, hm0, hw0, hc0⟩ := ReadsInt.ofRowC w0
  by_cases h : 1000 < l0.length
  · exact lists_out a0 cap0 l0 k w h
  · exact lists_walk a0 cap0 l0 k w (Kd.C_of_reads (d := (0 : Int)) (h1 := fun _ => rfl) hr0) hc0 (by omega)
/- Kd.C_below Kd.at_int Kd.C_drewN ReadsInt.ofRowC Kd.C_of_reads sized_ints IsRow rd_get -/
end Go.Proofs.Ytlglopainaploaa.Tal
