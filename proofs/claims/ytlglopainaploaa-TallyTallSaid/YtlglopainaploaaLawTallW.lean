/- Of very many numbers few stand one above the other: foolscaplaw20.TallyTall walked. -/
import Derived.Test.YtlglopainaploaaLawTallP
import Derived.Test.YtlglopainaploaaTalTall
namespace Go.Proofs.Ytlglopainaploaa.Tal
open Go.RowKit Go.Proofs.YtlglopainaploaaW.PrintWords Go.Proofs.YtlglopainaploaaW.PrintLast Go.Proofs.YtlglopainaploaaW.PrintMore
open Go.Proofs.Ytlglopainaploaa.PV Go.Proofs.Ytlglopainaploaa.Pure
set_option linter.unusedVariables false
set_option linter.unusedSimpArgs false

theorem fits_small {n : Int} (h0 : 0 ≤ n) (h1 : n ≤ 1000000) : FitsI n := ⟨by omega, by omega⟩
/-- A number more. -/
theorem tall_add {w : World} {t N : Nat} {s : TS} {L : List Va} {n : Int} (h : TRep w t s) (ok : TOk s N L) (an : AllNum L) (hl : L.length < 4096) (hN : N < 1000000) (h0 : 0 ≤ n) (h1 : n ≤ 1000000) :
    Calls Try.prog 14 #[.pointer (some ⟨t, 0, none⟩), .agg #[.int .i64 1, .int .i64 n, .string ⟨#[]⟩, .bool false, .int .i64 0]] w fun e w' => e = .returned (.int .i64 0) ∧ ∃ s', TW w t s w' s' ∧ TOk s' (N + 1) (vNum n :: L) ∧ AllNum (vNum n :: L) := by
  have r := add_ok (x := vNum n) h ok (ok_num (fits_small h0 h1)) hl hN
  rw [held_num] at r
  refine r.mono ?_
  rintro e w' ⟨he, s', tw, ok'⟩
  exact ⟨he, s', tw, ok', fun x hx => (List.mem_cons.1 hx).elim (fun e => ⟨n, h0, h1, e⟩) (an x)⟩
theorem tall_small {w : World} {t N : Nat} {s : TS} {L : List Va} {k : Int} (h : TRep w t s) (ok : TOk s N L) (an : AllNum L) (h1 : 1 ≤ k) (h2 : k ≤ L.length) :
    ∃ x : Int, x = atA (numsOf L) (k - 1).toNat ∧ 0 ≤ x ∧ x ≤ 1000000 ∧ Calls Try.prog 11 #[.pointer (some ⟨t, 0, none⟩), .int .i64 k] w fun q w' => q = .returned (.tuple #[.int .i64 x, .int .i64 0]) ∧ Below w.heap.size w w' := by
  have r := small_ok (k := k) h ok
  have e := an.small (k := k.toNat) (by omega) (by omega)
  rw [show ((k.toNat : Nat) : Int) = k by omega] at e
  rw [e] at r
  have m := an.nums.2 _ (at_mem (l := numsOf L) (i := k.toNat - 1) (by rw [an.nums.1]; omega))
  exact ⟨_, congrArg (atA _) (by omega), m.1, m.2, r⟩
theorem tall_below {w : World} {t N : Nat} {s : TS} {L : List Va} {k : Int} (h : TRep w t s) (ok : TOk s N L) (an : AllNum L) (h1 : 1 ≤ k) (h2 : k ≤ L.length) :
    ∃ B O : Int, 0 ≤ B ∧ B ≤ k - 1 ∧ k ≤ B + O ∧ O ≤ 10000 ∧ (∀ w, TRep w t s → Calls Try.prog 19 #[.pointer (some ⟨t, 0, none⟩), .int .i64 (atA (numsOf L) (k - 1).toNat)] w fun q w' => q = .returned (.int .i64 B) ∧ Below w.heap.size w w') ∧
      ∀ w, TRep w t s → Calls Try.prog 20 #[.pointer (some ⟨t, 0, none⟩), .agg #[.int .i64 1, .int .i64 (atA (numsOf L) (k - 1).toNat), .string ⟨#[]⟩, .bool false, .int .i64 0]] w fun q w' => q = .returned (.int .i64 O) ∧ Below w.heap.size w w' := by
  have hi : (k - 1).toNat < (numsOf L).length := by rw [an.nums.1]; omega
  have c := at_counts hi
  have m := an.nums.2 _ (at_mem hi)
  have cb := cnt_bd L (vNum (atA (numsOf L) (k - 1).toNat))
  have len := ok.len
  refine ⟨_, cnt L (vNum (atA (numsOf L) (k - 1).toNat)), ?_, ?_, ?_, ?_, fun w h => below_ok h ok, fun w h => ?_⟩
  · omega
  · omega
  · rw [cnt_num _ ok.right]; omega
  · omega
  · have r := often_ok (x := vNum (atA (numsOf L) (k - 1).toNat)) h ok (ok_num (fits_small m.1 m.2))
    rw [held_num] at r
    exact r
set_option maxHeartbeats 3200000 in
set_option maxRecDepth 100000 in
theorem tall_walk (N : Nat) (by_ : Int) (w : World) (h1 : N ≤ 2000) : Calls Try.prog 7 #[.int .i64 (N : Int), .int .i64 by_] w fun e w' => e = .returned (.bool true) ∧ Below w.heap.size w w' := by
  have d1 : decide ((N : Int) < 0) = false := decide_eq_false (by omega)
  have d2 : decide (2000 < (N : Int)) = false := decide_eq_false (by omega)
  have HN := Aside0.mk h1
  clear h1
  go_enter Try.func7, Try.ntmps7
  go_wp2_with fail
  with_reducible refine (new_mine _).mono ?_
  rintro e w1 ⟨rfl, m⟩
  have M0 := Aside0.mk m
  clear m
  go_wp2_with fail
  have ST : Aside0 (0 ≤ wrap64 (wrap64 ((IntKind.u64.wrap by_).tmod 1000) * 2) ∧ wrap64 (wrap64 ((IntKind.u64.wrap by_).tmod 1000) * 2) ≤ 2000) := ⟨by
    have u0 : 0 ≤ IntKind.u64.wrap by_ := by simp only [IntKind.wrap]; exact Int.emod_nonneg _ (by decide)
    rw [Int.tmod_eq_emod_of_nonneg u0]
    unfold wrap64
    omega⟩
  generalize wrap64 (wrap64 ((IntKind.u64.wrap by_).tmod 1000) * 2) = st at *
  go_loopg [6, 8] N (fun kq v6 v8 w' => ∃ (i : Nat) (a : Int), v6 = .int .i64 a ∧ v8 = .int .i64 (i : Int) ∧ Aside0 (i + kq = N) ∧ Aside0 (0 ≤ a ∧ a < 2003) ∧ Aside0 (∃ s L, Mine w (w.heap.size + 2) s w' ∧ TOk s i L ∧ AllNum L ∧ L.length = i))
  case atStart => exact ⟨0, 0, rfl, rfl, ⟨Nat.zero_add _⟩, ⟨by decide⟩, ⟨_, [], M0.out, TOk.new _ 0, fun _ h => (by cases h), rfl⟩⟩
  case round =>
    obtain ⟨i, a, rfl, rfl, HI, HA, HT⟩ := hrel
    obtain ⟨s, L, mi, ok, an, ln⟩ := HT.out
    have MI := Aside0.mk mi
    have OK := Aside0.mk ok
    have AN := Aside0.mk an
    have LN := Aside0.mk ln
    clear HT mi ok an ln M0
    cases gk with
    | zero =>
      have e : i = N := HI.out
      subst e
      have d3 : decide ((i : Int) < (i : Int)) = false := decide_eq_false (by omega)
      obtain ⟨T, okT, bT, pT, hc⟩ := height_ok MI.out.rep OK.out
      have hh : T.ht ≤ tallN i := by
        refine bT.ht_le i ?_
        have a1 := okT.pos.le
        have fl := flatE_len ((pos_ent T).1 okT.pos)
        rw [← T3.tot_ent, pT.length_eq, AN.out.nums.1, LN.out] at fl
        omega
      have d5 : decide (tallN i < T.ht) = false := decide_eq_false (by omega)
      have d6 : decide ((tallN i : Int) < (T.ht : Int)) = false := decide_eq_false (by omega)
      clear okT bT pT hh
      go_wp2_with fail
      refine hc.mono ?_
      rintro e w2 ⟨rfl, b2⟩
      have M2 := Aside0.mk (MI.out.step b2)
      clear b2 hc
      go_wp2_with fail
      with_reducible refine (tall_calls i _ (by have := HN.out; omega)).mono ?_
      rintro e w3 ⟨rfl, b3⟩
      have M3 := Aside0.mk (M2.out.step (below_of_drawn b3))
      clear b3 M2
      have cn : Calls Try.prog 16 #[.pointer (some ⟨w.heap.size + 2, 0, none⟩), .int .i64 1] w3 fun e w' => e = .returned (.int .i64 (i : Int)) ∧ Below w3.heap.size w3 w' := by
        have r := count_ok (k := 1) M3.out.rep OK.out (by decide)
        have e1 : kn L (1 : Nat) = (i : Int) := by
          have := numsOf_len L
          have := AN.out.nums.1
          have := LN.out
          show kn L 1 = _
          omega
        rw [e1] at r
        exact r
      go_wp2_with fail
      refine cn.mono ?_
      rintro e w4 ⟨rfl, b4⟩
      have M4 := Aside0.mk (M3.out.step b4)
      clear b4 M3 cn
      go_wp2_with fail
      clear d5 d6 d3
      go_loopg [9, 10] (i + 1) (fun kq v9 v10 w' => ∃ (k was : Int), v9 = .int .i64 was ∧ v10 = .int .i64 k ∧ Aside0 (1 ≤ k ∧ k ≤ 4000 ∧ (i : Int) + 1 ≤ k + kq) ∧ Aside0 (∀ j : Nat, k ≤ j + 1 → j < i → was ≤ atA (numsOf L) j) ∧ Aside0 (Mine w (w.heap.size + 2) s w'))
      case atStart => exact ⟨1, -1, rfl, rfl, ⟨by have := HN.out; omega⟩, ⟨fun j _ hj => by
        have := AN.out.nums.2 _ (at_mem (l := numsOf L) (i := j) (by rw [AN.out.nums.1, LN.out]; exact hj))
        omega⟩, M4⟩
      case round =>
        clear M4 MI
        obtain ⟨k, was, rfl, rfl, HK, HW, MJ⟩ := hrel
        by_cases c : k ≤ (i : Int)
        · have d5 : decide (k ≤ (i : Int)) = true := decide_eq_true c
          cases gk with
          | zero => exact absurd HK.out (by omega)
          | succ k1 =>
            obtain ⟨x, hx, x0, x1, cs⟩ := tall_small MJ.out.rep OK.out AN.out HK.out.1 (by rw [LN.out]; exact c)
            obtain ⟨B, O, B0, B1, B2, O1, cb, co⟩ := tall_below MJ.out.rep OK.out AN.out HK.out.1 (by rw [LN.out]; exact c)
            rw [← hx] at cb co
            have wx : was ≤ x := by rw [hx]; exact HW.out _ (by omega) (by have := HK.out; omega)
            have HX : Aside0 (x = atA (numsOf L) (k - 1).toNat) := ⟨hx⟩
            have HC : Aside0 (k ≤ (i : Int)) := ⟨c⟩
            have CB := Aside0.mk cb
            have CO := Aside0.mk co
            have wk : wrap64 (k - 1) = k - 1 := w64 (by omega) (by have := HK.out; omega)
            have wo : wrap64 (B + O) = B + O := w64 (by omega) (by have := HK.out; omega)
            have d7 : decide (x < was) = false := decide_eq_false (by omega)
            have d8 : decide (k - 1 < B) = false := decide_eq_false (by omega)
            have d9 : decide (B + O < k) = false := decide_eq_false (by omega)
            have wd : wrap64 (Int.tdiv (i : Int) 50) = (i : Int) / 50 := by rw [Int.tdiv_eq_ediv_of_nonneg (by omega), w64 (by omega) (by have := HN.out; omega)]
            have wn : wrap64 (wrap64 (k + 1) + (i : Int) / 50) = k + 1 + (i : Int) / 50 := by
              have := HK.out; have := HN.out
              rw [w64 (x := k + 1) (by omega) (by omega), w64 (by omega) (by omega)]
            have WN := Aside0.mk wn
            have WE : Aside0 (wrap64 ((i : Int) / 50) = (i : Int) / 50) := ⟨w64 (by omega) (by have := HN.out; omega)⟩
            have WD := Aside0.mk wd
            have HM2 : Aside0 (∀ j : Nat, k + 1 + (i : Int) / 50 ≤ j + 1 → j < i → x ≤ atA (numsOf L) j) := ⟨fun j hj hi => by
              rw [hx]
              exact at_mono (by have := HK.out; omega) (by rw [AN.out.nums.1, LN.out]; exact hi)⟩
            clear hx c cb co wn wd x0 x1 B0 B1 B2 O1 wx HW
            go_wp2_with fail
            refine cs.mono ?_
            rintro e y1 ⟨rfl, b1⟩
            have M1 := Aside0.mk (MJ.out.step b1)
            clear b1 cs MJ
            go_wp2_with fail
            refine (CB.out _ M1.out.rep).mono ?_
            rintro e y2 ⟨rfl, b2⟩
            have M2 := Aside0.mk (M1.out.step b2)
            clear b2 M1
            go_wp2_with fail
            refine (CB.out _ M2.out.rep).mono ?_
            rintro e y3 ⟨rfl, b3⟩
            have M3 := Aside0.mk (M2.out.step b3)
            clear b3 M2
            go_wp2_with fail
            with_reducible refine (number_calls x _).mono ?_
            rintro e y4 ⟨rfl, b4⟩
            have M4 := Aside0.mk (M3.out.step b4)
            clear b4 M3
            go_wp2_with fail
            refine (CO.out _ M4.out.rep).mono ?_
            rintro e y5 ⟨rfl, b5⟩
            have M5 := Aside0.mk (M4.out.step b5)
            clear b5 M4
            go_wp2_with fail
            go_roundg k1
            case measure => omega
            case rel => exact ⟨k + 1 + (i : Int) / 50, x, rfl, by first | rw [WE.out, WN.out] | rw [WD.out, WN.out], ⟨by have := HK.out; have := HN.out; have := HC.out; omega⟩, HM2, M5⟩
        · have d5 : decide (k ≤ (i : Int)) = false := decide_eq_false c
          clear c
          go_wp2_with fail
          with_reducible refine (lives_calls _).mono ?_
          rintro e y1 ⟨rfl, b1⟩
          have B1 := Aside0.mk (below_step2 MJ.out.below b1)
          clear b1 MJ
          go_wp2
          go_ret
          exact ⟨rfl, B1.out⟩
    | succ k1 =>
      have lt : i < N := by have := HI.out; omega
      have d3 : decide ((i : Int) < (N : Int)) = true := decide_eq_true (by omega)
      have d4 : decide (i < N) = true := decide_eq_true lt
      have wi : wrap64 ((i : Int) + 1) = ((i + 1 : Nat) : Int) := by have := HN.out; unfold wrap64; omega
      have wa : Int.tmod (wrap64 (wrap64 (a + st) + 1)) 2003 = (a + st + 1) % 2003 := by
        have := HA.out; have := ST.out
        rw [w64 (x := a + st) (by omega) (by omega), w64 (by omega) (by omega), Int.tmod_eq_emod_of_nonneg (by omega)]
      have AA : Aside0 (0 ≤ (a + st + 1) % 2003 ∧ (a + st + 1) % 2003 < 2003) := ⟨by omega⟩
      have WI := Aside0.mk wi
      have WA := Aside0.mk wa
      clear wi wa lt
      go_wp2_with fail
      rw [WA.out]
      generalize (a + st + 1) % 2003 = a' at *
      with_reducible refine (number_calls a' _).mono ?_
      rintro e w2 ⟨rfl, b2⟩
      have M2 := Aside0.mk (MI.out.step b2)
      clear b2
      go_wp2_with fail
      with_reducible refine (tall_add M2.out.rep OK.out AN.out (by have := LN.out; have := HI.out; have := HN.out; omega) (by have := HI.out; have := HN.out; omega) AA.out.1 (by have := AA.out.2; omega)).mono ?_
      rintro e w3 ⟨rfl, s', tw, ok', an'⟩
      have M3 := Aside0.mk (⟨s', _, M2.out.tw tw, ok', an', by rw [List.length_cons, LN.out]⟩ : ∃ s' L', Mine w (w.heap.size + 2) s' w3 ∧ TOk s' (i + 1) L' ∧ AllNum L' ∧ L'.length = i + 1)
      clear tw ok' an'
      go_wp2_with fail
      go_roundg k1
      case measure => omega
      case rel => exact ⟨i + 1, a', rfl, by rw [WI.out], ⟨by have := HI.out; omega⟩, AA, M3⟩
set_option maxHeartbeats 3200000 in
set_option maxRecDepth 100000 in
theorem tall_out (n by_ : Int) (w : World) (h : n < 0 ∨ 2000 < n) : Calls Try.prog 7 #[.int .i64 n, .int .i64 by_] w fun e w' => e = .returned (.bool true) ∧ Below w.heap.size w w' := by
  by_cases c : n < 0
  · have d1 : decide (n < 0) = true := decide_eq_true c
    clear c h
    go_enter Try.func7, Try.ntmps7
    go_wp2_with fail
    with_reducible refine (lives_calls _).mono ?_
    rintro e w1 ⟨rfl, b1⟩
    have B1 := Aside0.mk b1
    clear b1
    go_wp2
    go_ret
    exact ⟨rfl, B1.out⟩
  · have d1 : decide (n < 0) = false := decide_eq_false c
    have d2 : decide (2000 < n) = true := decide_eq_true (by omega)
    clear c h
    go_enter Try.func7, Try.ntmps7
    go_wp2_with fail
    with_reducible refine (lives_calls _).mono ?_
    rintro e w1 ⟨rfl, b1⟩
    have B1 := Aside0.mk b1
    clear b1
    go_wp2
    go_ret
    exact ⟨rfl, B1.out⟩
theorem tall_all (n by_ : Int) (w : World) : Calls Try.prog 7 #[.int .i64 n, .int .i64 by_] w fun e w' => e = .returned (.bool true) ∧ Below w.heap.size w w' := by
  by_cases h : n < 0 ∨ 2000 < n
  · exact tall_out n by_ w h
  · have r := tall_walk n.toNat by_ w (by omega)
    rw [show ((n.toNat : Nat) : Int) = n by omega] at r
    exact r
end Go.Proofs.Ytlglopainaploaa.Tal
