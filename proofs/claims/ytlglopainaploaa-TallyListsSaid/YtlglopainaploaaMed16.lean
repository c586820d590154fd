/- The midst of numbers: what the printed function tells. -/
import Derived.Test.YtlglopainaploaaPLx6
import Derived.Test.YtlglopainaploaaSumV16
set_option linter.unusedVariables false
set_option linter.unusedSimpArgs false
namespace Go.Proofs.Ytlglopainaploaa.Pure
open Go.RowKit Go.Proofs.Ytlglopainaploaa.PL Go.Proofs.YtlglopainaploaaW.PrintWords Go.Proofs.YtlglopainaploaaW.PrintLast Go.Proofs.YtlglopainaploaaW.PrintMore

/-- What the midst is. -/
def MedIs (l : List Int) (r : Int × Int) : Prop := (¬ (GoodL l ∧ 0 < l.length) ∧ r = (0, 5)) ∨ (GoodL l ∧ 0 < l.length ∧ ∃ b, KthIs l (l.length / 2) b ∧
  ((l.length % 2 = 1 ∧ r = (b, 0)) ∨ (l.length % 2 = 0 ∧ ∃ a, KthIs l (l.length / 2 - 1) a ∧ r = (meanV (a + b) 2, 0))))
theorem MedIs.one {l : List Int} {r s : Int × Int} (hr : MedIs l r) (hs : MedIs l s) : r = s := by
  rcases hr with ⟨n, e⟩ | ⟨g, p, b, hb, h⟩
  · rcases hs with ⟨_, e'⟩ | ⟨g, p, _⟩
    · rw [e, e']
    · exact absurd ⟨g, p⟩ n
  · rcases hs with ⟨n, _⟩ | ⟨_, _, b', hb', h'⟩
    · exact absurd ⟨g, p⟩ n
    · have eb := hb.one hb'
      subst eb
      rcases h with ⟨o, e⟩ | ⟨o, a, ha, e⟩
      · rcases h' with ⟨_, e'⟩ | ⟨o', _⟩
        · rw [e, e']
        · omega
      · rcases h' with ⟨o', _⟩ | ⟨_, a', ha', e'⟩
        · omega
        · rw [e, e', ha.one ha']
theorem good_perm {l m : List Int} (h : l.Perm m) : GoodL l ↔ GoodL m := by
  unfold GoodL
  rw [h.length_eq]
  exact ⟨fun q => ⟨q.1, fun x hx => q.2 x (h.mem_iff.2 hx)⟩, fun q => ⟨q.1, fun x hx => q.2 x (h.mem_iff.1 hx)⟩⟩
theorem MedIs.perm {l m : List Int} {r : Int × Int} (h : l.Perm m) (hr : MedIs l r) : MedIs m r := by
  unfold MedIs at hr ⊢
  rw [← good_perm h, ← h.length_eq]
  rcases hr with q | ⟨g, p, b, hb, q⟩
  · exact .inl q
  · refine .inr ⟨g, p, b, hb.perm h, ?_⟩
    rcases q with q | ⟨o, a, ha, e⟩
    · exact .inl q
    · exact .inr ⟨o, a, ha.perm h, e⟩
theorem median_of (l : List Int) : ∃ r, MedIs l r ∧ Ev (fun k => stats_Median.f k l) r := by
  have bad : ∀ x, Ev (fun k => stats_Median.j0 k l x true) (0, 5) := fun x => Ev.step (f := fun _ => some (0, 5)) (fun k => by simp only [stats_Median.j0]; rw [if_pos trivial]) (Ev.now _)
  by_cases g : GoodL l
  · by_cases p : 0 < l.length
    · have hl : (l.length : Int) < 17592186044416 := by have := g.1; omega
      obtain ⟨b, z, e1, hb, hp⟩ := kth_of l.length l (l.length / 2) (Nat.le_refl _) (by omega) hl
      have wd : wrap64 (Int.tdiv (l.length : Int) 2) = ((l.length / 2 : Nat) : Int) := by
        rw [Int.tdiv_eq_ediv_of_nonneg (by omega), wr64 (by omega) (by omega)]; omega
      have wm : Int.tmod (l.length : Int) 2 = ((l.length % 2 : Nat) : Int) := by rw [Int.tmod_eq_emod_of_nonneg (by omega)]; omega
      have start : ∀ r, Ev (fun k => (stats_kth_int.f k l ((l.length / 2 : Nat) : Int)).bind fun bt169 => (if ((l.length % 2 : Nat) : Int) = 1 then (some (bt169.1, 0)) else ((stats_kth_int.f k bt169.2 (wrap64 (((l.length / 2 : Nat) : Int) - 1))).bind fun bt171 => ((stats_Mean.f k (([bt171.1, bt169.1] : List Int))).bind fun bt176 => (some (bt176.1, bt176.2)))))) r → Ev (fun k => stats_Median.f k l) r := fun r h => by
        refine Ev.bind (good_of l) (Ev.congr (f := fun k => stats_Median.j0 k l (l.length : Int) false) (fun k => ?_) (Ev.step (fun k => ?_) h))
        · rw [if_pos (decide_eq_true g), beq_eq_false_iff_ne.2 (by omega)]
        · simp only [stats_Median.j0]
          rw [if_neg (by decide)]
          unfold slices_Clone_int_int.f
          rw [if_pos (by omega)]
          simp only [Option.bind_some]
          rw [wd, wm]
      by_cases o : l.length % 2 = 1
      · exact ⟨(b, 0), .inr ⟨g, p, b, hb, .inl ⟨o, rfl⟩⟩, start _ (Ev.bind e1 (Ev.congr (f := fun _ => some (b, 0)) (fun k => by rw [if_pos (by omega)]) (Ev.now _)))⟩
      · have hzl := hp.length_eq
        obtain ⟨a, z2, e2, ha, _⟩ := kth_of z.length z (l.length / 2 - 1) (Nat.le_refl _) (by omega) (by omega)
        have ha' := ha.perm hp
        have hm := mean_ofL [a, b]
        have gab : GoodL [a, b] := ⟨by simp, fun x hx => by
          rcases List.mem_cons.1 hx with rfl | hx
          · exact g.2 _ ha'.1
          · have : x = b := by simpa using hx
            subst this; exact g.2 _ hb.1⟩
        have hv : meanL [a, b] = (meanV (a + b) 2, 0) := by
          unfold meanL
          rw [if_pos gab, if_neg (by simp)]
          simp [sumI]
        rw [hv] at hm
        refine ⟨(meanV (a + b) 2, 0), .inr ⟨g, p, b, hb, .inr ⟨by omega, a, ha', rfl⟩⟩, start _ (Ev.bind e1 (Ev.congr (fun k => if_neg (by omega)) ?_))⟩
        rw [wr64 (x := ((l.length / 2 : Nat) : Int) - 1) (by omega) (by omega), show ((l.length / 2 : Nat) : Int) - 1 = ((l.length / 2 - 1 : Nat) : Int) by omega]
        exact Ev.bind (f := fun k (bt171 : Int × List Int) => (stats_Mean.f k [bt171.1, b]).bind fun bt176 => some (bt176.1, bt176.2)) e2 (Ev.bind (f := fun _ (bt176 : Int × Int) => some (bt176.1, bt176.2)) hm (Ev.now (meanV (a + b) 2, (0 : Int))))
    · refine ⟨(0, 5), .inl ⟨fun q => p q.2, rfl⟩, Ev.bind (good_of l) (Ev.congr (fun k => if_pos (decide_eq_true g)) ?_)⟩
      rw [show ((l.length : Int) == 0) = true from beq_iff_eq.2 (by omega)]
      exact bad _
  · exact ⟨(0, 5), .inl ⟨fun q => g q.1, rfl⟩, Ev.bind (good_of l) (Ev.congr (fun k => if_neg (by rw [decide_eq_false g]; decide)) (bad _))⟩
end Go.Proofs.Ytlglopainaploaa.Pure
