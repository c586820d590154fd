/- Places among numbers: what the printed choice of the k-th one tells. -/
import Derived.Test.YtlglopainaploaaPLx5
set_option linter.unusedVariables false
set_option linter.unusedSimpArgs false
namespace Go.Proofs.Ytlglopainaploaa.Pure
open Go.RowKit Go.Proofs.Ytlglopainaploaa.PL Go.Proofs.YtlglopainaploaaW.PrintWords Go.Proofs.YtlglopainaploaaW.PrintLast Go.Proofs.YtlglopainaploaaW.PrintMore

theorem wrK {x : Int} (h0 : -9223372036854775808 ≤ x) (h1 : x ≤ 9223372036854775807) : wrap64 x = x := by
  unfold wrap64; omega
def cLt (l : List Int) (r : Int) : Nat := l.countP (fun x => decide (x < r))
def cLe (l : List Int) (r : Int) : Nat := l.countP (fun x => decide (x ≤ r))
/-- r stands at the place k of the sorted numbers. -/
def KthIs (l : List Int) (k : Nat) (r : Int) : Prop := r ∈ l ∧ cLt l r ≤ k ∧ k < cLe l r
theorem cLe_le_cLt {l : List Int} {r s : Int} (h : r < s) : cLe l r ≤ cLt l s :=
  List.countP_mono_left (fun x _ hx => by simp at hx ⊢; omega)
theorem KthIs.one {l : List Int} {k : Nat} {r s : Int} (hr : KthIs l k r) (hs : KthIs l k s) : r = s := by
  obtain ⟨_, r1, r2⟩ := hr
  obtain ⟨_, s1, s2⟩ := hs
  by_cases h : r < s
  · have := cLe_le_cLt (l := l) h; omega
  by_cases h2 : s < r
  · have := cLe_le_cLt (l := l) h2; omega
  omega
theorem KthIs.perm {l m : List Int} {k : Nat} {r : Int} (h : l.Perm m) (hr : KthIs l k r) : KthIs m k r :=
  ⟨h.mem_iff.1 hr.1, by have := hr.2.1; unfold cLt at this ⊢; rw [← h.countP_eq]; exact this, by have := hr.2.2; unfold cLe at this ⊢; rw [← h.countP_eq]; exact this⟩
theorem KthIs.mono {l : List Int} {i j : Nat} {r s : Int} (h : i ≤ j) (hr : KthIs l i r) (hs : KthIs l j s) : r ≤ s := by
  by_cases c : s < r
  · have := cLe_le_cLt (l := l) c
    have := hr.2.1
    have := hs.2.2
    omega
  · omega
theorem rd_get (l : List Int) (i : Nat) (h : i < l.length) : rd l i = l[i] := by
  unfold rd
  rw [Int.toNat_natCast, List.getD_eq_getElem?_getD, List.getElem?_eq_getElem h]; rfl
theorem rd_mem {l : List Int} {i : Int} (h0 : 0 ≤ i) (h1 : i < l.length) : rd l i ∈ l := by
  obtain ⟨n, rfl⟩ := Int.eq_ofNat_of_zero_le h0
  rw [rd_get l n (by omega)]
  exact List.getElem_mem _
theorem countP_all {p : Int → Bool} {l : List Int} (h : ∀ x ∈ l, p x = true) : l.countP p = l.length := List.countP_eq_length.2 h
theorem countP_none {p : Int → Bool} {l : List Int} (h : ∀ x ∈ l, p x = false) : l.countP p = 0 := List.countP_eq_zero.2 (fun x hx => by simp [h x hx])
/-- A swap. -/
theorem swap_perm (l : List Int) {i j : Nat} (hi : i < l.length) (hj : j < l.length) : ((l.set i l[j]).set j l[i]).Perm l := by
  rw [List.perm_iff_count]
  intro a
  rw [List.count_set (by rw [List.length_set]; exact hj), List.count_set hi, List.getElem_set]
  have h1 : l[i] == a → 0 < l.count a := fun h => by
    have : l[i] = a := by simpa using h
    exact List.count_pos_iff.2 (this ▸ List.getElem_mem hi)
  have h2 : l[j] == a → 0 < l.count a := fun h => by
    have : l[j] = a := by simpa using h
    exact List.count_pos_iff.2 (this ▸ List.getElem_mem hj)
  by_cases e : i = j
  · subst e
    simp only [if_true]
    by_cases c : (l[i] == a) = true
    · have := h1 c; simp only [c, if_true]; omega
    · simp only [c]; simp
  · rw [if_neg e]
    by_cases c : (l[i] == a) = true <;> by_cases d : (l[j] == a) = true
    · have := h1 c; simp only [c, d, if_true]; omega
    · have := h1 c; simp only [c, d, if_true]; (try simp); (try omega)
    · have := h2 d; simp only [c, d, if_true]; (try simp); (try omega)
    · simp only [c, d]; simp
theorem rd_set1 (l : List Int) (n : Nat) (v j : Int) (j0 : 0 ≤ j) (hn : n < l.length) : rd (l.set n v) j = if (n : Int) = j then v else rd l j := by
  unfold rd
  rw [List.getD_eq_getElem?_getD, List.getD_eq_getElem?_getD, List.getElem?_set]
  by_cases c : n = j.toNat
  · rw [if_pos c, if_pos hn, if_pos (by omega)]; rfl
  · rw [if_neg c, if_neg (by omega)]
/-- What the parting keeps to: below by, by itself, not yet seen, above by. -/
structure Part (l z : List Int) (b low at_ high : Int) : Prop where
  perm : z.Perm l
  o0 : 0 ≤ low
  o1 : low ≤ at_
  o2 : at_ ≤ high
  o3 : high ≤ z.length
  lo : ∀ j : Int, 0 ≤ j → j < low → rd z j < b
  mi : ∀ j : Int, low ≤ j → j < at_ → rd z j = b
  hi : ∀ j : Int, high ≤ j → j < z.length → rd z j > b
theorem swap_rd (z : List Int) {i j : Int} (i0 : 0 ≤ i) (i1 : i < z.length) (j0 : 0 ≤ j) (j1 : j < z.length) (q : Int) (q0 : 0 ≤ q) :
    rd ((z.set i.toNat (rd z j)).set j.toNat (rd z i)) q = if q = j then rd z i else if q = i then rd z j else rd z q := by
  rw [rd_set1 _ _ _ _ q0 (by rw [List.length_set]; omega), rd_set1 _ _ _ _ q0 (by omega), Int.toNat_of_nonneg j0, Int.toNat_of_nonneg i0]
  by_cases c : q = j
  · rw [if_pos c.symm, if_pos c]
  · rw [if_neg (fun h => c h.symm), if_neg c]
    by_cases d : q = i
    · rw [if_pos d.symm, if_pos d]
    · rw [if_neg (fun h => d h.symm), if_neg d]
theorem swap_perm' (z : List Int) {i j : Int} (i0 : 0 ≤ i) (i1 : i < z.length) (j0 : 0 ≤ j) (j1 : j < z.length) : ((z.set i.toNat (rd z j)).set j.toNat (rd z i)).Perm z := by
  obtain ⟨m, rfl⟩ := Int.eq_ofNat_of_zero_le i0
  obtain ⟨n, rfl⟩ := Int.eq_ofNat_of_zero_le j0
  rw [rd_get z m (by omega), rd_get z n (by omega)]
  exact swap_perm z (by omega) (by omega)
theorem parted_l0 {l : List Int} {b : Int} (hl : (l.length : Int) < 17592186044416) : ∀ (d : Nat) (z : List Int) (low at_ high : Int), high - at_ = d → Part l z b low at_ high →
    ∃ lo hi z', Ev (fun k => stats_parted_int.l0 k z b low at_ high) (lo, hi, z') ∧ Part l z' b lo hi hi := by
  intro d
  induction d with
  | zero =>
    intro z low at_ high hd P
    obtain rfl : at_ = high := by omega
    exact ⟨low, at_, z, Ev.step (f := fun _ => some (low, at_, z)) (fun k => by simp only [stats_parted_int.l0]; rw [if_neg (by omega)]) (Ev.now _), P⟩
  | succ d ih =>
    intro z low at_ high hd P
    have hz : z.length = l.length := P.perm.length_eq
    obtain ⟨p1, o0, o1, o2, o3, plo, pmi, phi⟩ := P
    by_cases c1 : rd z at_ < b
    · have P' : Part l ((z.set low.toNat (rd z at_)).set at_.toNat (rd z low)) b (low + 1) (at_ + 1) high := by
        have hs := fun q q0 => swap_rd z (i := low) (j := at_) (by omega) (by omega) (by omega) (by omega) q q0
        refine ⟨(swap_perm' z (by omega) (by omega) (by omega) (by omega)).trans p1, by omega, by omega, by omega, by rw [List.length_set, List.length_set]; exact o3, ?_, ?_, ?_⟩
        · intro j j0 j1
          rw [hs j j0]
          split
          · rename_i e
            by_cases e2 : low = at_
            · rw [e2]; exact c1
            · omega
          · split
            · exact c1
            · exact plo j j0 (by omega)
        · intro j j0 j1
          rw [hs j (by omega)]
          split
          · exact pmi low (by omega) (by omega)
          · split
            · omega
            · exact pmi j (by omega) (by omega)
        · intro j j0 j1
          rw [List.length_set, List.length_set] at j1
          rw [hs j (by omega), if_neg (by omega), if_neg (by omega)]
          exact phi j j0 j1
      obtain ⟨lo, hi, z', e, Q⟩ := ih _ _ _ _ (by omega) P'
      refine ⟨lo, hi, z', Ev.step (fun k => ?_) e, Q⟩
      simp only [stats_parted_int.l0]
      rw [if_pos (by omega), if_pos (by omega), if_pos (by omega), if_pos c1, if_pos (by omega), if_pos (by omega), wrK (x := low + 1) (by omega) (by omega), wrK (x := at_ + 1) (by omega) (by omega)]
    by_cases c2 : rd z at_ > b
    · have P' : Part l ((z.set (high - 1).toNat (rd z at_)).set at_.toNat (rd z (high - 1))) b low at_ (high - 1) := by
        have hs := fun q q0 => swap_rd z (i := high - 1) (j := at_) (by omega) (by omega) (by omega) (by omega) q q0
        refine ⟨(swap_perm' z (by omega) (by omega) (by omega) (by omega)).trans p1, by omega, by omega, by omega, by rw [List.length_set, List.length_set]; omega, ?_, ?_, ?_⟩
        · intro j j0 j1
          rw [hs j j0, if_neg (by omega), if_neg (by omega)]
          exact plo j j0 j1
        · intro j j0 j1
          rw [hs j (by omega), if_neg (by omega), if_neg (by omega)]
          exact pmi j j0 j1
        · intro j j0 j1
          rw [List.length_set, List.length_set] at j1
          rw [hs j (by omega)]
          split
          · rename_i e
            have : high - 1 = at_ := by omega
            rw [this]; exact c2
          · split
            · exact c2
            · exact phi j (by omega) j1
      obtain ⟨lo, hi, z', e, Q⟩ := ih _ _ _ _ (by omega) P'
      refine ⟨lo, hi, z', Ev.step (fun k => ?_) e, Q⟩
      simp only [stats_parted_int.l0]
      rw [wrK (x := high - 1) (by omega) (by omega), if_pos (by omega), if_pos (by omega), if_pos (by omega), if_neg c1, if_pos c2, if_pos (by omega), if_pos (by omega)]
    · have P' : Part l z b low (at_ + 1) high := by
        refine ⟨p1, o0, by omega, by omega, o3, plo, ?_, phi⟩
        intro j j0 j1
        by_cases e : j = at_
        · subst e; omega
        · exact pmi j j0 (by omega)
      obtain ⟨lo, hi, z', e, Q⟩ := ih _ _ _ _ (by omega) P'
      refine ⟨lo, hi, z', Ev.step (fun k => ?_) e, Q⟩
      simp only [stats_parted_int.l0]
      rw [if_pos (by omega), if_pos (by omega), if_pos (by omega), if_neg c1, if_neg c2, wrK (x := at_ + 1) (by omega) (by omega)]
/-- Parted: three parts, told by their places. -/
theorem parted_of {l : List Int} (b : Int) (hl : (l.length : Int) < 17592186044416) : ∃ (lo hi : Nat) (z : List Int), Ev (fun k => stats_parted_int.f k l b) ((lo : Int), (hi : Int), z) ∧ z.Perm l ∧ lo ≤ hi ∧ hi ≤ z.length ∧
    (∀ x ∈ z.take lo, x < b) ∧ (∀ x ∈ (z.drop lo).take (hi - lo), x = b) ∧ (∀ x ∈ z.drop hi, b < x) := by
  have P0 : Part l l b 0 0 l.length := ⟨List.Perm.refl _, by omega, by omega, by omega, by omega, fun j h0 h1 => by omega, fun j h0 h1 => by omega, fun j h0 h1 => by omega⟩
  obtain ⟨lo, hi, z, e, Q⟩ := parted_l0 hl l.length l 0 0 l.length (by omega) P0
  obtain ⟨p1, o0, o1, o2, o3, plo, pmi, phi⟩ := Q
  obtain ⟨m, rfl⟩ := Int.eq_ofNat_of_zero_le o0
  obtain ⟨n, rfl⟩ := Int.eq_ofNat_of_zero_le (show 0 ≤ hi by omega)
  refine ⟨m, n, z, e, p1, by omega, by omega, ?_, ?_, ?_⟩
  · intro x hx
    obtain ⟨i, hi, rfl⟩ := List.mem_take_iff_getElem.1 hx
    have := plo i (by omega) (by omega)
    rwa [rd_get z i (by omega)] at this
  · intro x hx
    obtain ⟨i, hi, rfl⟩ := List.mem_take_iff_getElem.1 hx
    rw [List.length_drop] at hi
    rw [List.getElem_drop]
    have := pmi ((m + i : Nat) : Int) (by omega) (by omega)
    rwa [rd_get z (m + i) (by omega)] at this
  · intro x hx
    obtain ⟨i, hi, rfl⟩ := List.mem_iff_getElem.1 hx
    rw [List.length_drop] at hi
    rw [List.getElem_drop]
    have := phi ((n + i : Nat) : Int) (by omega) (by omega)
    rw [rd_get z (n + i) (by omega)] at this
    omega
theorem mid_mem {l : List Int} {a b c : Int} (ha : a ∈ l) (hb : b ∈ l) (hc : c ∈ l) : mx (mn a b) (mn (mx a b) c) ∈ l := by
  have h1 : ∀ x y : Int, mn x y = x ∨ mn x y = y := fun x y => by unfold mn; split <;> simp
  have h2 : ∀ x y : Int, mx x y = x ∨ mx x y = y := fun x y => by unfold mx; split <;> simp
  rcases h2 (mn a b) (mn (mx a b) c) with e | e
  · rw [e]; rcases h1 a b with e | e <;> rw [e] <;> assumption
  · rw [e]
    rcases h1 (mx a b) c with e | e
    · rw [e]; rcases h2 a b with e | e <;> rw [e] <;> assumption
    · rw [e]; exact hc
theorem cLt_app (a b : List Int) (r : Int) : cLt (a ++ b) r = cLt a r + cLt b r := List.countP_append
theorem cLe_app (a b : List Int) (r : Int) : cLe (a ++ b) r = cLe a r + cLe b r := List.countP_append
theorem cLt_all {l : List Int} {r : Int} (h : ∀ x ∈ l, x < r) : cLt l r = l.length := countP_all (fun x hx => by simpa using h x hx)
theorem cLe_all {l : List Int} {r : Int} (h : ∀ x ∈ l, x ≤ r) : cLe l r = l.length := countP_all (fun x hx => by simpa using h x hx)
theorem cLt_none {l : List Int} {r : Int} (h : ∀ x ∈ l, r ≤ x) : cLt l r = 0 := countP_none (fun x hx => by have := h x hx; simp; omega)
theorem cLe_none {l : List Int} {r : Int} (h : ∀ x ∈ l, r < x) : cLe l r = 0 := countP_none (fun x hx => by have := h x hx; simp; omega)
theorem kth_of : ∀ (n : Nat) (l : List Int) (q : Nat), l.length ≤ n → q < l.length → (l.length : Int) < 17592186044416 →
    ∃ r z, Ev (fun k => stats_kth_int.l0 k l (q : Int)) (r, z) ∧ KthIs l q r ∧ z.Perm l := by
  intro n
  induction n with
  | zero => intro l q h1 h2; omega
  | succ n ih =>
    intro l q h1 h2 hl
    by_cases c : (l.length : Int) > 1
    · have w1 : wrap64 ((l.length : Int) / 2) = (l.length : Int) / 2 := wrK (by omega) (by omega)
      have w2 : wrap64 ((l.length : Int) - 1) = (l.length : Int) - 1 := wrK (by omega) (by omega)
      have hB := mid_mem (rd_mem (l := l) (i := 0) (by omega) (by omega)) (rd_mem (l := l) (i := (l.length : Int) / 2) (by omega) (by omega)) (rd_mem (l := l) (i := (l.length : Int) - 1) (by omega) (by omega))
      generalize hb : mx (mn (rd l 0) (rd l ((l.length : Int) / 2))) (mn (mx (rd l 0) (rd l ((l.length : Int) / 2))) (rd l ((l.length : Int) - 1))) = B at hB
      obtain ⟨lo, hi, z, ev, pz, o1, o2, hA, hM, hD⟩ := parted_of B hl
      have hz := pz.length_eq
      have hlohi : lo < hi := by
        have hm : B ∈ z := pz.mem_iff.2 hB
        rw [← List.take_append_drop lo z, List.mem_append] at hm
        rcases hm with hm | hm
        · have := hA B hm; omega
        · by_cases e : lo = hi
          · rw [e] at hm; have := hD B hm; omega
          · omega
      have hrest : ∀ x ∈ z.drop lo, B ≤ x := fun x hx => by
        rw [← List.take_append_drop (hi - lo) (z.drop lo), List.mem_append, List.drop_drop] at hx
        rcases hx with hx | hx
        · have := hM x hx; omega
        · rw [show lo + (hi - lo) = hi by omega] at hx; have := hD x hx; omega
      have hfirst : ∀ x ∈ z.take hi, x ≤ B := fun x hx => by
        rw [show hi = lo + (hi - lo) by omega, List.take_add, List.mem_append] at hx
        rcases hx with hx | hx
        · have := hA x hx; omega
        · have := hM x hx; omega
      have st : ∀ k, stats_kth_int.l0 (k + 1) l (q : Int) = (stats_parted_int.f k l B).bind fun bt122 => (if (q : Int) < bt122.1 then (if 0 ≤ bt122.1 then (if bt122.1 ≤ (l.length : Int) then ((stats_kth_int.l0 k (bt122.2.2.take (bt122.1 : Int).toNat) q).bind fun q_ => some (q_.1, q_.2 ++ bt122.2.2.drop (bt122.1 : Int).toNat)) else (none)) else (none)) else (if (q : Int) < bt122.2.1 then (some (B, bt122.2.2)) else (if 0 ≤ bt122.2.1 then (if bt122.2.1 ≤ (l.length : Int) then ((stats_kth_int.l0 k (bt122.2.2.drop (bt122.2.1 : Int).toNat) (wrap64 (q - bt122.2.1))).bind fun q_ => some (q_.1, bt122.2.2.take (bt122.2.1 : Int).toNat ++ q_.2)) else (none)) else (none)))) := fun k => by
        simp only [stats_kth_int.l0]
        rw [if_pos c, if_pos (by omega), w1, w2, if_pos (by omega), if_pos (by omega), if_pos (by omega), if_pos (by omega), hb]
      by_cases q1 : q < lo
      · obtain ⟨r, y, e, hk, hp⟩ := ih (z.take lo) q (by rw [List.length_take]; omega) (by rw [List.length_take]; omega) (by rw [List.length_take]; omega)
        refine ⟨r, y ++ z.drop lo, Ev.step st (Ev.bind ev (Ev.congr (fun k => ?_) (Ev.bind (f := fun _ q_ => some (q_.1, q_.2 ++ z.drop lo)) e (Ev.now _)))), ?_, ?_⟩
        · dsimp only
          rw [if_pos (by omega), if_pos (by omega), if_pos (by omega), Int.toNat_natCast]
        · refine KthIs.perm pz ?_
          have hr := hA r hk.1
          obtain ⟨k1, k2, k3⟩ := hk
          refine ⟨List.mem_of_mem_take k1, ?_, ?_⟩
          · rw [← List.take_append_drop lo z, cLt_app, cLt_none (l := z.drop lo) (fun x hx => by have := hrest x hx; omega)]; omega
          · rw [← List.take_append_drop lo z, cLe_app]; omega
        · exact ((hp.append_right _).trans (by rw [List.take_append_drop])).trans pz
      by_cases q2 : q < hi
      · refine ⟨B, z, Ev.step st (Ev.bind ev (Ev.congr (f := fun _ => some (B, z)) (fun k => ?_) (Ev.now _))), ?_, pz⟩
        · dsimp only
          rw [if_neg (by omega), if_pos (by omega)]
        · refine KthIs.perm pz ⟨pz.mem_iff.2 hB, ?_, ?_⟩
          · rw [← List.take_append_drop lo z, cLt_app, cLt_none (l := z.drop lo) hrest]
            have : cLt (z.take lo) B ≤ (z.take lo).length := List.countP_le_length
            rw [List.length_take] at this; omega
          · rw [← List.take_append_drop hi z, cLe_app, cLe_all hfirst, List.length_take]; omega
      · obtain ⟨r, y, e, hk, hp⟩ := ih (z.drop hi) (q - hi) (by rw [List.length_drop]; omega) (by rw [List.length_drop]; omega) (by rw [List.length_drop]; omega)
        refine ⟨r, z.take hi ++ y, Ev.step st (Ev.bind ev (Ev.congr (fun k => ?_) (Ev.bind (f := fun _ q_ => some (q_.1, z.take hi ++ q_.2)) e (Ev.now _)))), ?_, ?_⟩
        · dsimp only
          rw [if_neg (by omega), if_neg (by omega), if_pos (by omega), if_pos (by omega), Int.toNat_natCast, wrK (x := (q : Int) - hi) (by omega) (by omega), show (q : Int) - hi = ((q - hi : Nat) : Int) by omega]
        · refine KthIs.perm pz ?_
          have hr := hD r hk.1
          obtain ⟨k1, k2, k3⟩ := hk
          have e1 : cLt (z.take hi) r = hi := by rw [cLt_all (fun x hx => by have := hfirst x hx; omega), List.length_take]; omega
          have e2 : cLe (z.take hi) r = hi := by rw [cLe_all (fun x hx => by have := hfirst x hx; omega), List.length_take]; omega
          refine ⟨List.mem_of_mem_drop k1, ?_, ?_⟩
          · rw [← List.take_append_drop hi z, cLt_app, e1]; omega
          · rw [← List.take_append_drop hi z, cLe_app, e2]; omega
        · exact ((hp.append_left _).trans (by rw [List.take_append_drop])).trans pz
    · have hl1 : l.length = 1 := by omega
      obtain ⟨x, rfl⟩ := List.length_eq_one_iff.1 hl1
      refine ⟨x, [x], Ev.step (f := fun _ => some (x, [x])) (fun k => ?_) (Ev.now _), ?_, List.Perm.refl _⟩
      · simp only [stats_kth_int.l0]
        rw [if_neg c, if_pos (by simp)]; rfl
      · have : q = 0 := by simp at h2; exact h2
        subst this
        exact ⟨by simp, by simp [cLt], by simp [cLe]⟩
end Go.Proofs.Ytlglopainaploaa.Pure
