/- Trees, in plain Lean: what a heap of knots stands for, and what the tree's functions do with it. Trees, in plain Lean: balanced. Trees, in plain Lean: their entries in order; a thing more. Trees, in plain Lean: with on a heap of knots makes the tree with a thing more. Trees, in plain Lean: what is asked of them. Trees, in plain Lean: what stands at a place. Trees, in plain Lean: a thing less. Trees, in plain Lean: how high they stand. -/
import Derived.Test.YtlglopainaploaaTalPa
/-! Trees, in plain Lean: what a heap of knots stands for, and what the tree's functions do with it. -/
namespace Go.Proofs.Ytlglopainaploaa.Tal
open Go.RowKit Go.Proofs.YtlglopainaploaaW.PrintWords Go.Proofs.YtlglopainaploaaW.PrintLast Go.Proofs.YtlglopainaploaaW.PrintMore
set_option linter.unusedVariables false
set_option linter.unusedSimpArgs false

/-- A tree of things with their blocks and how often each is there. -/
inductive T3 where
  | nil
  | node (b : Nat) (x : Int) (o : Int) (l r : T3)
namespace T3
def tot : T3 → Int
  | nil => 0
  | node _ _ o l r => o + l.tot + r.tot
def sz : T3 → Int
  | nil => 0
  | node _ _ _ l r => 1 + l.sz + r.sz
def blks : T3 → List Nat
  | nil => []
  | node b _ _ l r => b :: (l.blks ++ r.blks)
def root : T3 → Option Nat
  | nil => none
  | node b _ _ _ _ => some b
end T3
def T3.kn : T3 → Kn
  | .nil => ⟨0, 0, none, none, 0, 0⟩
  | .node _ x o l r => ⟨x, o, l.root, r.root, o + l.tot + r.tot, 1 + l.sz + r.sz⟩
/-- The heap holds the tree. -/
def In (H : KH) : T3 → Prop
  | .nil => True
  | .node b x o l r => H b = some (T3.node b x o l r).kn ∧ In H l ∧ In H r
/-- Numbers in reach. -/
def Small (t : T3) : Prop := 0 ≤ t.tot ∧ t.tot ≤ 1000000 ∧ 0 ≤ t.sz ∧ t.sz ≤ 1000000
theorem In.put {H : KH} {c : Nat} {k : Kn} : ∀ {t : T3}, In H t → c ∉ t.blks → In (H.put c k) t
  | .nil, _, _ => trivial
  | .node b x o l r, h, hc => by
    simp only [T3.blks, List.mem_cons, List.mem_append, not_or] at hc
    exact ⟨(put_ne H k (fun e => hc.1 e.symm)).trans h.1, In.put h.2.1 hc.2.1, In.put h.2.2 hc.2.2⟩
theorem In.total {H : KH} : ∀ {t : T3}, In H t → totalH H t.root = some t.tot
  | .nil, _ => rfl
  | .node b x o l r, h => by
    show (H b).map Kn.all = _
    rw [h.1]; rfl
theorem In.size {H : KH} : ∀ {t : T3}, In H t → sizeH H t.root = some t.sz
  | .nil, _ => rfl
  | .node b x o l r, h => by
    show (H b).map Kn.many = _
    rw [h.1]; rfl
theorem w64 {x : Int} (h0 : -9223372036854775808 ≤ x) (h1 : x ≤ 9223372036854775807) : wrap64 x = x := by unfold wrap64; omega
/-- count on a knot whose sides are trees. -/
theorem count_tree {H : KH} {k : Kn} {l r : T3} (hl : In H l) (hr : In H r) (el : k.l = l.root) (er : k.r = r.root) (o0 : 0 ≤ k.often) (o1 : k.often ≤ 1000000) (sl : Small l) (sr : Small r) (b : Nat) :
    countK H k = some (T3.node b k.x k.often l r).kn := by
  obtain ⟨a1, a2, a3, a4⟩ := sl
  obtain ⟨c1, c2, c3, c4⟩ := sr
  unfold countK
  rw [el, er, hl.total, hr.total, hl.size, hr.size]
  simp only [Option.bind_some, Option.some.injEq]
  rw [w64 (x := k.often + l.tot) (by omega) (by omega), w64 (by omega) (by omega), w64 (x := 1 + l.sz) (by omega) (by omega), w64 (by omega) (by omega)]
  rfl
/-- Each thing is there. -/
def Pos : T3 → Prop
  | .nil => True
  | .node _ _ o l r => 1 ≤ o ∧ Pos l ∧ Pos r
theorem Pos.le : ∀ {t : T3}, Pos t → 0 ≤ t.sz ∧ t.sz ≤ t.tot
  | .nil, _ => ⟨Int.le_refl _, Int.le_refl _⟩
  | .node b x o l r, h => by
    obtain ⟨h0, h1, h2⟩ := h
    have a := h1.le
    have c := h2.le
    simp only [T3.sz, T3.tot]
    omega
/-- A knot over two trees; what it knows of them may be out of date. -/
def Top (H : KH) (b : Nat) (x o : Int) (l r : T3) : Prop := ∃ k, H b = some k ∧ k.x = x ∧ k.often = o ∧ k.l = l.root ∧ k.r = r.root
theorem In.top {H : KH} {b : Nat} {x o : Int} {l r : T3} (h : In H (.node b x o l r)) : Top H b x o l r := ⟨_, h.1, rfl, rfl, rfl, rfl⟩
theorem count_top {H : KH} {k : Kn} {x o : Int} {l r : T3} (hl : In H l) (hr : In H r) (ex : k.x = x) (eo : k.often = o) (el : k.l = l.root) (er : k.r = r.root) (o1 : 1 ≤ o) (pl : Pos l) (pr : Pos r) (b : Nat) (hs : (T3.node b x o l r).tot ≤ 1000000) :
    countK H k = some (T3.node b x o l r).kn := by
  have a := pl.le
  have c := pr.le
  simp only [T3.tot] at hs
  subst ex eo
  exact count_tree hl hr el er (by omega) (by omega) ⟨by omega, by omega, by omega, by omega⟩ ⟨by omega, by omega, by omega, by omega⟩ b
theorem turnR_tree {H : KH} {b u : Nat} {x o y p : Int} {l m r : T3} (tb : Top H b x o l (.node u y p m r)) (tu : Top H u y p m r) (hl : In H l) (hm : In H m) (hr : In H r) (ne : u ≠ b)
    (bl : b ∉ l.blks) (bm : b ∉ m.blks) (br : b ∉ r.blks) (ul : u ∉ l.blks) (um : u ∉ m.blks) (ur : u ∉ r.blks) (po : 1 ≤ o) (pp : 1 ≤ p) (pl : Pos l) (pm : Pos m) (pr : Pos r)
    (hs : (T3.node u y p (.node b x o l m) r).tot ≤ 1000000) :
    ∃ H', turnR H b = some (u, H') ∧ In H' (.node u y p (.node b x o l m) r) ∧ ∀ c, c ≠ b → c ≠ u → H' c = H c := by
  obtain ⟨k, hk, k1, k2, k3, k4⟩ := tb
  obtain ⟨q, hq, q1, q2, q3, q4⟩ := tu
  have ne' : b ≠ u := fun e => ne e.symm
  have a := pl.le
  have c := pm.le
  have d := pr.le
  have hs' := hs
  simp only [T3.tot] at hs'
  have i1 : ∀ {t : T3}, In H t → b ∉ t.blks → u ∉ t.blks → In ((H.put b { k with r := q.l }).put u { q with l := some b }) t := fun h x y => (h.put x).put y
  have e1 := count_top (k := { k with r := q.l }) (i1 hl bl ul) (i1 hm bm um) k1 k2 k3 q3 po pl pm b (by simp only [T3.tot]; omega)
  have hb2 : In ((((H.put b { k with r := q.l }).put u { q with l := some b })).put b (T3.node b x o l m).kn) (.node b x o l m) := ⟨put_same _ _ _, (i1 hl bl ul).put bl, (i1 hm bm um).put bm⟩
  have e2 := count_top (k := { q with l := some b }) hb2 ((i1 hr br ur).put br) q1 q2 rfl q4 pp ⟨po, pl, pm⟩ pr u hs
  refine ⟨_, ?_, ⟨put_same _ _ _, hb2.put ?_, ((i1 hr br ur).put br).put ur⟩, fun c h1 h2 => ?_⟩
  · unfold turnR
    rw [hk]
    simp only [Option.bind_some]
    rw [k4]
    simp only [T3.root, Option.bind_some]
    rw [hq]
    simp only [Option.bind_some]
    rw [if_neg ne, e1]
    simp only [Option.bind_some]
    rw [e2]
    rfl
  · simp only [T3.blks, List.mem_cons, List.mem_append, not_or]
    exact ⟨ne, ul, um⟩
  · rw [put_ne _ _ h2, put_ne _ _ h1, put_ne _ _ h2, put_ne _ _ h1]
theorem turnL_tree {H : KH} {b u : Nat} {x o y p : Int} {l m r : T3} (tb : Top H b x o (.node u y p l m) r) (tu : Top H u y p l m) (hl : In H l) (hm : In H m) (hr : In H r) (ne : u ≠ b)
    (bl : b ∉ l.blks) (bm : b ∉ m.blks) (br : b ∉ r.blks) (ul : u ∉ l.blks) (um : u ∉ m.blks) (ur : u ∉ r.blks) (po : 1 ≤ o) (pp : 1 ≤ p) (pl : Pos l) (pm : Pos m) (pr : Pos r)
    (hs : (T3.node u y p l (.node b x o m r)).tot ≤ 1000000) :
    ∃ H', turnL H b = some (u, H') ∧ In H' (.node u y p l (.node b x o m r)) ∧ ∀ c, c ≠ b → c ≠ u → H' c = H c := by
  obtain ⟨k, hk, k1, k2, k3, k4⟩ := tb
  obtain ⟨q, hq, q1, q2, q3, q4⟩ := tu
  have ne' : b ≠ u := fun e => ne e.symm
  have a := pl.le
  have c := pm.le
  have d := pr.le
  have hs' := hs
  simp only [T3.tot] at hs'
  have i1 : ∀ {t : T3}, In H t → b ∉ t.blks → u ∉ t.blks → In ((H.put b { k with l := q.r }).put u { q with r := some b }) t := fun h x y => (h.put x).put y
  have e1 := count_top (k := { k with l := q.r }) (i1 hm bm um) (i1 hr br ur) k1 k2 q4 k4 po pm pr b (by simp only [T3.tot]; omega)
  have hb2 : In ((((H.put b { k with l := q.r }).put u { q with r := some b })).put b (T3.node b x o m r).kn) (.node b x o m r) := ⟨put_same _ _ _, (i1 hm bm um).put bm, (i1 hr br ur).put br⟩
  have e2 := count_top (k := { q with r := some b }) ((i1 hl bl ul).put bl) hb2 q1 q2 q3 rfl pp pl ⟨po, pm, pr⟩ u hs
  refine ⟨_, ?_, ⟨put_same _ _ _, ((i1 hl bl ul).put bl).put ul, hb2.put ?_⟩, fun c h1 h2 => ?_⟩
  · unfold turnL
    rw [hk]
    simp only [Option.bind_some]
    rw [k3]
    simp only [T3.root, Option.bind_some]
    rw [hq]
    simp only [Option.bind_some]
    rw [if_neg ne, e1]
    simp only [Option.bind_some]
    rw [e2]
    rfl
  · simp only [T3.blks, List.mem_cons, List.mem_append, not_or]
    exact ⟨ne, um, ur⟩
  · rw [put_ne _ _ h2, put_ne _ _ h1, put_ne _ _ h2, put_ne _ _ h1]
end Go.Proofs.Ytlglopainaploaa.Tal
/-! Trees, in plain Lean: balanced. -/
namespace Go.Proofs.Ytlglopainaploaa.Tal
open Go.RowKit Go.Proofs.YtlglopainaploaaW.PrintWords Go.Proofs.YtlglopainaploaaW.PrintLast Go.Proofs.YtlglopainaploaaW.PrintMore
set_option linter.unusedVariables false
set_option linter.unusedSimpArgs false

def balT (b : Nat) (x o : Int) (l r : T3) : T3 :=
  if 3 * (l.sz + 1) < r.sz + 1 then (match r with
    | .nil => .nil
    | .node u y p m rr => if 2 * (rr.sz + 1) ≤ m.sz + 1 then (match m with
        | .nil => .nil
        | .node v z q ml mr => .node v z q (.node b x o l ml) (.node u y p mr rr)) else .node u y p (.node b x o l m) rr)
  else if 3 * (r.sz + 1) < l.sz + 1 then (match l with
    | .nil => .nil
    | .node u y p ll m => if 2 * (ll.sz + 1) ≤ m.sz + 1 then (match m with
        | .nil => .nil
        | .node v z q ml mr => .node v z q (.node u y p ll ml) (.node b x o mr r)) else .node u y p ll (.node b x o m r))
  else .node b x o l r
theorem hvy_is {a c : Int} (a0 : 0 ≤ a) (a1 : a ≤ 1000000) (c0 : 0 ≤ c) (c1 : c ≤ 1000000) : hvy a c = decide (3 * (c + 1) < a + 1) := by
  unfold hvy
  rw [w64 (x := c + 1) (by omega) (by omega), w64 (x := a + 1) (by omega) (by omega), w64 (x := 3 * (c + 1)) (by omega) (by omega)]
theorem dbl_is {a c : Int} (a0 : 0 ≤ a) (a1 : a ≤ 1000000) (c0 : 0 ≤ c) (c1 : c ≤ 1000000) : dbl a c = decide (2 * (c + 1) ≤ a + 1) := by
  unfold dbl
  rw [w64 (x := c + 1) (by omega) (by omega), w64 (x := a + 1) (by omega) (by omega), w64 (x := 2 * (c + 1)) (by omega) (by omega)]
theorem size_top {H : KH} {t : T3} (h : In H t) {p : Option Nat} (e : p = t.root) : sizeH H p = some t.sz := by rw [e]; exact h.size
theorem balR_tree {H : KH} {b u : Nat} {x o y p : Int} {l m r : T3} {k : Kn} (hk : H b = some k) (k1 : k.x = x) (k2 : k.often = o) (k3 : k.l = l.root) (k4 : k.r = some u) (hl : In H l) (hr : In H (.node u y p m r))
    (nd : (b :: (l.blks ++ (T3.node u y p m r).blks)).Nodup) (po : 1 ≤ o) (pl : Pos l) (pr : Pos (.node u y p m r)) (hs : (T3.node b x o l (.node u y p m r)).tot ≤ 1000000) (hv : 3 * (l.sz + 1) < (T3.node u y p m r).sz + 1) :
    ∃ H' g, balR H b k = some (g, H') ∧ In H' (balT b x o l (.node u y p m r)) ∧ (balT b x o l (.node u y p m r)).root = some g ∧ ∀ c, c ≠ b → c ∉ (T3.node u y p m r).blks → H' c = H c := by
  simp only [T3.blks, List.nodup_cons, List.mem_append, List.mem_cons, not_or] at nd
  obtain ⟨⟨bl, bu, bm, br⟩, nd⟩ := nd
  rw [List.nodup_append] at nd
  obtain ⟨ndl, ndr, dis⟩ := nd
  rw [List.nodup_cons, List.mem_append, not_or] at ndr
  obtain ⟨⟨um, ur⟩, ndmr⟩ := ndr
  rw [List.nodup_append] at ndmr
  obtain ⟨ndm, ndrr, dmr⟩ := ndmr
  have ul : u ∉ l.blks := fun q => dis u q u List.mem_cons_self rfl
  have lm : ∀ c ∈ l.blks, c ∉ m.blks := fun c h1 h2 => dis c h1 c (List.mem_cons_of_mem _ (List.mem_append_left _ h2)) rfl
  have lr : ∀ c ∈ l.blks, c ∉ r.blks := fun c h1 h2 => dis c h1 c (List.mem_cons_of_mem _ (List.mem_append_right _ h2)) rfl
  obtain ⟨hu, hm, hrr⟩ := hr
  obtain ⟨pp, pm, prr⟩ := pr
  have al := pl.le
  have am := pm.le
  have ar := prr.le
  have hs' := hs
  simp only [T3.tot] at hs'
  have nub : u ≠ b := fun e => bu e.symm
  unfold balR
  rw [k4]
  simp only [Option.bind_some]
  rw [hu]
  simp only [Option.bind_some]
  rw [show sizeH H (T3.node u y p m r).kn.l = some m.sz from hm.size, show sizeH H (T3.node u y p m r).kn.r = some r.sz from hrr.size]
  simp only [Option.bind_some]
  rw [dbl_is (by omega) (by omega) (by omega) (by omega)]
  unfold balT
  rw [if_pos hv]
  dsimp only
  by_cases d : 2 * (r.sz + 1) ≤ m.sz + 1
  · rw [if_pos (decide_eq_true d), if_pos d]
    cases m with
    | nil => simp only [T3.sz] at d; omega
    | node v z q ml mr =>
      simp only [T3.blks, List.mem_cons, List.mem_append, not_or, List.nodup_cons] at um ur ndm bm dmr lm
      obtain ⟨hv0, hml, hmr⟩ := hm
      obtain ⟨pq, pml, pmr⟩ := pm
      obtain ⟨uv, uml, umr⟩ := um
      obtain ⟨bv, bml, bmr⟩ := bm
      obtain ⟨⟨vml, vmr⟩, ndmm⟩ := ndm
      rw [List.nodup_append] at ndmm
      obtain ⟨_, _, dmm⟩ := ndmm
      have vr : v ∉ r.blks := fun e => dmr v (.inl rfl) v e rfl
      have vl : v ∉ l.blks := fun e => (lm v e).1 rfl
      simp only [T3.tot] at hs'
      have aml := pml.le
      have amr := pmr.le
      obtain ⟨H1, e1, i1, f1⟩ := turnL_tree (H := H) (b := u) (u := v) (x := y) (o := p) (y := z) (p := q) (l := ml) (m := mr) (r := r) ⟨_, hu, rfl, rfl, rfl, rfl⟩ ⟨_, hv0, rfl, rfl, rfl, rfl⟩ hml hmr hrr (fun e => uv e.symm) uml umr ur vml vmr vr pp pq pml pmr prr (by simp only [T3.tot]; omega)
      rw [e1]
      simp only [Option.bind_some]
      rw [f1 b (fun e => bu e) (fun e => bv e), hk]
      simp only [Option.bind_some]
      obtain ⟨iv, iml, iu⟩ := i1
      obtain ⟨iu0, imr, irr⟩ := iu
      have keep : ∀ {t : T3}, In H1 t → b ∉ t.blks → In (H1.put b { k with r := some v }) t := fun h q => h.put q
      have il : In H1 l := by
        have : ∀ {t : T3}, In H t → u ∉ t.blks → v ∉ t.blks → In H1 t := by
          intro t
          induction t with
          | nil => intro _ _ _; trivial
          | node b' x' o' l' r' ihl ihr =>
            intro h q1 q2
            simp only [T3.blks, List.mem_cons, List.mem_append, not_or] at q1 q2
            exact ⟨(f1 b' (fun e => q1.1 e.symm) (fun e => q2.1 e.symm)).trans h.1, ihl h.2.1 q1.2.1 q2.2.1, ihr h.2.2 q1.2.2 q2.2.2⟩
        exact this hl ul vl
      have iU : In H1 (.node u y p mr r) := ⟨iu0, imr, irr⟩
      have bU : b ∉ (T3.node u y p mr r).blks := by simp only [T3.blks, List.mem_cons, List.mem_append, not_or]; exact ⟨bu, bmr, br⟩
      have vU : v ∉ (T3.node u y p mr r).blks := by simp only [T3.blks, List.mem_cons, List.mem_append, not_or]; exact ⟨fun e => uv e.symm, vmr, vr⟩
      obtain ⟨H2, e2, i2, f2⟩ := turnR_tree (H := H1.put b { k with r := some v }) (b := b) (u := v) (x := x) (o := o) (y := z) (p := q) (l := l) (m := ml) (r := .node u y p mr r) ⟨_, put_same _ _ _, k1, k2, k3, rfl⟩ ⟨_, (put_ne _ _ (fun e => bv e.symm)).trans iv, rfl, rfl, rfl, rfl⟩ (keep il bl) (keep iml bml) (keep iU bU) (fun e => bv e.symm) bl bml bU vl vml vU po pq pl pml ⟨pp, pmr, prr⟩ (by simp only [T3.tot]; omega)
      refine ⟨H2, v, e2, i2, rfl, fun c h1 h2 => ?_⟩
      simp only [T3.blks, List.mem_cons, List.mem_append, not_or] at h2
      rw [f2 c h1 h2.2.1.1, put_ne _ _ h1, f1 c h2.1 h2.2.1.1]
  · rw [if_neg (by simpa using d), if_neg d]
    obtain ⟨H1, e1, i1, f1⟩ := turnR_tree (H := H) (b := b) (u := u) (x := x) (o := o) (y := y) (p := p) (l := l) (m := m) (r := r) ⟨_, hk, k1, k2, k3, k4⟩ ⟨_, hu, rfl, rfl, rfl, rfl⟩ hl hm hrr nub bl bm br ul um ur po pp pl pm prr (by simp only [T3.tot]; omega)
    refine ⟨H1, u, e1, i1, rfl, fun c h1 h2 => ?_⟩
    simp only [T3.blks, List.mem_cons, List.mem_append, not_or] at h2
    exact f1 c h1 h2.1
theorem In.off {H H1 : KH} {u v : Nat} (f : ∀ c, c ≠ u → c ≠ v → H1 c = H c) : ∀ {t : T3}, In H t → u ∉ t.blks → v ∉ t.blks → In H1 t
  | .nil, _, _, _ => trivial
  | .node b' x' o' l' r', h, q1, q2 => by
    simp only [T3.blks, List.mem_cons, List.mem_append, not_or] at q1 q2
    exact ⟨(f b' (fun e => q1.1 e.symm) (fun e => q2.1 e.symm)).trans h.1, In.off f h.2.1 q1.2.1 q2.2.1, In.off f h.2.2 q1.2.2 q2.2.2⟩
theorem balL_tree {H : KH} {b u : Nat} {x o y p : Int} {l m r : T3} {k : Kn} (hk : H b = some k) (k1 : k.x = x) (k2 : k.often = o) (k3 : k.l = some u) (k4 : k.r = r.root) (hl : In H (.node u y p l m)) (hr : In H r)
    (nd : (b :: ((T3.node u y p l m).blks ++ r.blks)).Nodup) (po : 1 ≤ o) (pl : Pos (.node u y p l m)) (pr : Pos r) (hs : (T3.node b x o (.node u y p l m) r).tot ≤ 1000000) (hn : ¬ 3 * ((T3.node u y p l m).sz + 1) < r.sz + 1) (hv : 3 * (r.sz + 1) < (T3.node u y p l m).sz + 1) :
    ∃ H' g, balL H b k = some (g, H') ∧ In H' (balT b x o (.node u y p l m) r) ∧ (balT b x o (.node u y p l m) r).root = some g ∧ ∀ c, c ≠ b → c ∉ (T3.node u y p l m).blks → H' c = H c := by
  simp only [T3.blks, List.nodup_cons, List.mem_append, List.mem_cons, not_or] at nd
  obtain ⟨⟨⟨bu, bl, bm⟩, br⟩, nd⟩ := nd
  rw [List.nodup_append] at nd
  obtain ⟨ndl, ndr, dis⟩ := nd
  rw [List.nodup_cons, List.mem_append, not_or] at ndl
  obtain ⟨⟨ul, um⟩, ndlm⟩ := ndl
  rw [List.nodup_append] at ndlm
  obtain ⟨ndll, ndm, dlm⟩ := ndlm
  have ur : u ∉ r.blks := fun q => dis u List.mem_cons_self u q rfl
  have mr' : ∀ c ∈ m.blks, c ∉ r.blks := fun c h1 h2 => dis c (List.mem_cons_of_mem _ (List.mem_append_right _ h1)) c h2 rfl
  obtain ⟨hu, hll, hm⟩ := hl
  obtain ⟨pp, pll, pm⟩ := pl
  have al := pll.le
  have am := pm.le
  have ar := pr.le
  have hs' := hs
  simp only [T3.tot] at hs'
  have nub : u ≠ b := fun e => bu e.symm
  unfold balL
  rw [k3]
  simp only [Option.bind_some]
  rw [hu]
  simp only [Option.bind_some]
  rw [show sizeH H (T3.node u y p l m).kn.r = some m.sz from hm.size, show sizeH H (T3.node u y p l m).kn.l = some l.sz from hll.size]
  simp only [Option.bind_some]
  rw [dbl_is (by omega) (by omega) (by omega) (by omega)]
  unfold balT
  rw [if_neg hn, if_pos hv]
  dsimp only
  by_cases d : 2 * (l.sz + 1) ≤ m.sz + 1
  · rw [if_pos (decide_eq_true d), if_pos d]
    cases m with
    | nil => simp only [T3.sz] at d; omega
    | node v z q ml mr =>
      simp only [T3.blks, List.mem_cons, List.mem_append, not_or, List.nodup_cons] at um ndm bm dlm mr'
      obtain ⟨hv0, hml, hmr⟩ := hm
      obtain ⟨pq, pml, pmr⟩ := pm
      obtain ⟨uv, uml, umr⟩ := um
      obtain ⟨bv, bml, bmr⟩ := bm
      obtain ⟨⟨vml, vmr⟩, ndmm⟩ := ndm
      have vl : v ∉ l.blks := fun e => dlm v e v (.inl rfl) rfl
      have vr : v ∉ r.blks := mr' v (.inl rfl)
      simp only [T3.tot] at hs'
      have aml := pml.le
      have amr := pmr.le
      obtain ⟨H1, e1, i1, f1⟩ := turnR_tree (H := H) (b := u) (u := v) (x := y) (o := p) (y := z) (p := q) (l := l) (m := ml) (r := mr) ⟨_, hu, rfl, rfl, rfl, rfl⟩ ⟨_, hv0, rfl, rfl, rfl, rfl⟩ hll hml hmr (fun e => uv e.symm) ul uml umr vl vml vmr pp pq pll pml pmr (by simp only [T3.tot]; omega)
      rw [e1]
      simp only [Option.bind_some]
      rw [f1 b (fun e => bu e) (fun e => bv e), hk]
      simp only [Option.bind_some]
      obtain ⟨iv, iu, imr⟩ := i1
      obtain ⟨iu0, ill, iml⟩ := iu
      have keep : ∀ {t : T3}, In H1 t → b ∉ t.blks → In (H1.put b { k with l := some v }) t := fun h q => h.put q
      have ir : In H1 r := In.off f1 hr ur vr
      have iU : In H1 (.node u y p l ml) := ⟨iu0, ill, iml⟩
      have bU : b ∉ (T3.node u y p l ml).blks := by simp only [T3.blks, List.mem_cons, List.mem_append, not_or]; exact ⟨bu, bl, bml⟩
      have vU : v ∉ (T3.node u y p l ml).blks := by simp only [T3.blks, List.mem_cons, List.mem_append, not_or]; exact ⟨fun e => uv e.symm, vl, vml⟩
      obtain ⟨H2, e2, i2, f2⟩ := turnL_tree (H := H1.put b { k with l := some v }) (b := b) (u := v) (x := x) (o := o) (y := z) (p := q) (l := .node u y p l ml) (m := mr) (r := r) ⟨_, put_same _ _ _, k1, k2, rfl, k4⟩ ⟨_, (put_ne _ _ (fun e => bv e.symm)).trans iv, rfl, rfl, rfl, rfl⟩ (keep iU bU) (keep imr bmr) (keep ir br) (fun e => bv e.symm) bU bmr br vU vmr vr po pq ⟨pp, pll, pml⟩ pmr pr (by simp only [T3.tot]; omega)
      refine ⟨H2, v, e2, i2, rfl, fun c h1 h2 => ?_⟩
      simp only [T3.blks, List.mem_cons, List.mem_append, not_or] at h2
      rw [f2 c h1 h2.2.2.1, put_ne _ _ h1, f1 c h2.1 h2.2.2.1]
  · rw [if_neg (by simpa using d), if_neg d]
    obtain ⟨H1, e1, i1, f1⟩ := turnL_tree (H := H) (b := b) (u := u) (x := x) (o := o) (y := y) (p := p) (l := l) (m := m) (r := r) ⟨_, hk, k1, k2, k3, k4⟩ ⟨_, hu, rfl, rfl, rfl, rfl⟩ hll hm hr nub bl bm br ul um ur po pp pll pm pr (by simp only [T3.tot]; omega)
    refine ⟨H1, u, e1, i1, rfl, fun c h1 h2 => ?_⟩
    simp only [T3.blks, List.mem_cons, List.mem_append, not_or] at h2
    exact f1 c h1 h2.1
/-- balanced over trees. -/
theorem bal_tree {H : KH} {b : Nat} {x o : Int} {l r : T3} (tp : Top H b x o l r) (hl : In H l) (hr : In H r) (nd : (b :: (l.blks ++ r.blks)).Nodup) (po : 1 ≤ o) (pl : Pos l) (pr : Pos r) (hs : (T3.node b x o l r).tot ≤ 1000000) :
    ∃ H' g, balH H b = some (g, H') ∧ In H' (balT b x o l r) ∧ (balT b x o l r).root = some g ∧ ∀ c, c ≠ b → c ∉ l.blks → c ∉ r.blks → H' c = H c := by
  obtain ⟨k, hk, k1, k2, k3, k4⟩ := tp
  have al := pl.le
  have ar := pr.le
  have hs' := hs
  simp only [T3.tot] at hs'
  unfold balH
  rw [hk]
  simp only [Option.bind_some]
  rw [size_top hr k4, size_top hl k3]
  simp only [Option.bind_some]
  rw [hvy_is (by omega) (by omega) (by omega) (by omega), hvy_is (by omega) (by omega) (by omega) (by omega)]
  by_cases v1 : 3 * (l.sz + 1) < r.sz + 1
  · rw [if_pos (decide_eq_true v1)]
    cases r with
    | nil => simp only [T3.sz] at v1; omega
    | node u y p m rr =>
      obtain ⟨H', g, e, i, rt, f⟩ := balR_tree hk k1 k2 k3 k4 hl hr nd po pl pr hs v1
      exact ⟨H', g, e, i, rt, fun c h1 _ h3 => f c h1 h3⟩
  · rw [if_neg (by simpa using v1)]
    by_cases v2 : 3 * (r.sz + 1) < l.sz + 1
    · rw [if_pos (decide_eq_true v2)]
      cases l with
      | nil => simp only [T3.sz] at v2; omega
      | node u y p ll m =>
        obtain ⟨H', g, e, i, rt, f⟩ := balL_tree hk k1 k2 k3 k4 hl hr nd po pl pr hs v1 v2
        exact ⟨H', g, e, i, rt, fun c h1 h2 _ => f c h1 h2⟩
    · rw [if_neg (by simpa using v2)]
      have e0 : balT b x o l r = .node b x o l r := by unfold balT; rw [if_neg v1, if_neg v2]
      rw [e0]
      rw [count_top hl hr k1 k2 k3 k4 po pl pr b hs]
      simp only [List.nodup_cons, List.mem_append, not_or] at nd
      exact ⟨_, b, rfl, ⟨put_same _ _ _, hl.put nd.1.1, hr.put nd.1.2⟩, rfl, fun c h1 _ _ => put_ne _ _ h1⟩
end Go.Proofs.Ytlglopainaploaa.Tal
/-! Trees, in plain Lean: their entries in order; a thing more. -/
namespace Go.Proofs.Ytlglopainaploaa.Tal
open Go.RowKit Go.Proofs.YtlglopainaploaaW.PrintWords Go.Proofs.YtlglopainaploaaW.PrintLast Go.Proofs.YtlglopainaploaaW.PrintMore
set_option linter.unusedVariables false
set_option linter.unusedSimpArgs false

/-- A tree's entries in order: block, thing, how often. -/
def T3.ent : T3 → List (Nat × Int × Int)
  | .nil => []
  | .node b x o l r => l.ent ++ (b, x, o) :: r.ent
theorem T3.sz_ent : ∀ t : T3, t.sz = t.ent.length
  | .nil => rfl
  | .node b x o l r => by
    simp only [T3.sz, T3.ent, List.length_append, List.length_cons, T3.sz_ent l, T3.sz_ent r]
    omega
theorem T3.sz0 (t : T3) : 0 ≤ t.sz := by rw [t.sz_ent]; omega
def totE (l : List (Nat × Int × Int)) : Int := (l.map fun e => e.2.2).sum
theorem T3.tot_ent : ∀ t : T3, t.tot = totE t.ent
  | .nil => rfl
  | .node b x o l r => by
    simp only [T3.tot, T3.ent, totE, List.map_append, List.map_cons, List.sum_append, List.sum_cons]
    rw [T3.tot_ent l, T3.tot_ent r]
    simp only [totE]
    omega
theorem T3.blks_ent : ∀ t : T3, t.blks.Perm (t.ent.map fun e => e.1)
  | .nil => .refl _
  | .node b x o l r => by
    simp only [T3.blks, T3.ent, List.map_append, List.map_cons]
    refine List.Perm.trans ?_ List.perm_middle.symm
    exact ((T3.blks_ent l).append (T3.blks_ent r)).cons _
theorem pos_ent : ∀ t : T3, Pos t ↔ ∀ e ∈ t.ent, 1 ≤ e.2.2
  | .nil => ⟨(fun _ e he => absurd he (List.not_mem_nil)), fun _ => trivial⟩
  | .node b x o l r => by
    simp only [Pos, T3.ent, List.mem_append, List.mem_cons]
    rw [pos_ent l, pos_ent r]
    constructor
    · rintro ⟨h0, h1, h2⟩ e (h | rfl | h)
      · exact h1 e h
      · exact h0
      · exact h2 e h
    · intro h
      exact ⟨h (b, x, o) (.inr (.inl rfl)), fun e he => h e (.inl he), fun e he => h e (.inr (.inr he))⟩
theorem balT_ent (b : Nat) (x o : Int) (l r : T3) : (balT b x o l r).ent = l.ent ++ (b, x, o) :: r.ent := by
  have zl := l.sz0
  have zr := r.sz0
  unfold balT
  by_cases v1 : 3 * (l.sz + 1) < r.sz + 1
  · rw [if_pos v1]
    cases r with
    | nil => simp only [T3.sz] at v1; omega
    | node u y p m rr =>
      dsimp only
      by_cases d : 2 * (rr.sz + 1) ≤ m.sz + 1
      · rw [if_pos d]
        have := rr.sz0
        cases m with
        | nil => simp only [T3.sz] at d; omega
        | node v z q ml mr => simp [T3.ent]
      · rw [if_neg d]; simp [T3.ent]
  · rw [if_neg v1]
    by_cases v2 : 3 * (r.sz + 1) < l.sz + 1
    · rw [if_pos v2]
      cases l with
      | nil => simp only [T3.sz] at v2; omega
      | node u y p ll m =>
        dsimp only
        by_cases d : 2 * (ll.sz + 1) ≤ m.sz + 1
        · rw [if_pos d]
          have := ll.sz0
          cases m with
          | nil => simp only [T3.sz] at d; omega
          | node v z q ml mr => simp [T3.ent]
        · rw [if_neg d]; simp [T3.ent]
    · rw [if_neg v2]; rfl
/-- Ordered: the things rise. -/
def Ord (l : List (Nat × Int × Int)) : Prop := l.Pairwise (fun a c => a.2.1 < c.2.1)
/-- What every tree of a tally is. -/
structure Ok (t : T3) : Prop where
  nd : t.blks.Nodup
  pos : Pos t
  ord : Ord t.ent
  tot : t.tot ≤ 100000
def withT (nb : Nat) (x : Int) : T3 → T3
  | .nil => .node nb x 1 .nil .nil
  | .node b y o l r => if x < y then balT b y o (withT nb x l) r else if y < x then balT b y o l (withT nb x r) else balT b y (o + 1) l r
/-- Entries with a thing more. -/
def withE (nb : Nat) (x : Int) : List (Nat × Int × Int) → List (Nat × Int × Int)
  | [] => [(nb, x, 1)]
  | e :: es => if x < e.2.1 then (nb, x, 1) :: e :: es else if e.2.1 < x then e :: withE nb x es else (e.1, e.2.1, e.2.2 + 1) :: es
theorem withE_left {nb : Nat} {x : Int} {b : Nat} {y o : Int} (h : x < y) (r : List (Nat × Int × Int)) : ∀ l : List (Nat × Int × Int), withE nb x (l ++ (b, y, o) :: r) = withE nb x l ++ (b, y, o) :: r
  | [] => by simp [withE, h]
  | e :: es => by
    simp only [List.cons_append, withE]
    split
    · rfl
    · split
      · rw [withE_left h r es]; rfl
      · rfl
theorem withE_right {nb : Nat} {x : Int} : ∀ {l : List (Nat × Int × Int)} (r : List (Nat × Int × Int)), (∀ e ∈ l, e.2.1 < x) → withE nb x (l ++ r) = l ++ withE nb x r
  | [], r, _ => rfl
  | e :: es, r, h => by
    have h0 := h e List.mem_cons_self
    simp only [List.cons_append, withE]
    rw [if_neg (by omega), if_pos h0, withE_right r (fun q hq => h q (List.mem_cons_of_mem _ hq))]
theorem withT_ent (nb : Nat) (x : Int) : ∀ t : T3, Ord t.ent → (withT nb x t).ent = withE nb x t.ent
  | .nil, _ => rfl
  | .node b y o l r, h => by
    unfold Ord at h
    simp only [T3.ent] at h
    rw [List.pairwise_append, List.pairwise_cons] at h
    obtain ⟨hl, ⟨hy, hr⟩, hlr⟩ := h
    simp only [withT, T3.ent]
    by_cases c1 : x < y
    · rw [if_pos c1, balT_ent, withT_ent nb x l hl, withE_left c1]
    · rw [if_neg c1]
      have below : ∀ e ∈ l.ent, e.2.1 < y := fun e he => hlr e he _ List.mem_cons_self
      by_cases c2 : y < x
      · rw [if_pos c2, balT_ent, withT_ent nb x r hr, withE_right _ (fun e he => by have := below e he; omega)]
        simp only [withE]
        rw [if_neg (by omega), if_pos c2]
      · rw [if_neg c2, balT_ent, withE_right _ (fun e he => by have := below e he; omega)]
        simp only [withE]
        rw [if_neg c1, if_neg c2]
theorem withE_blk (nb : Nat) (x : Int) : ∀ l : List (Nat × Int × Int), ((withE nb x l).map fun e => e.1).Perm (nb :: l.map fun e => e.1) ∨ ((withE nb x l).map fun e => e.1) = l.map fun e => e.1
  | [] => .inl (.refl _)
  | e :: es => by
    simp only [withE]
    split
    · exact .inl (.refl _)
    · split
      · rcases withE_blk nb x es with h | h
        · exact .inl ((h.cons _).trans (.swap _ _ _))
        · exact .inr (by simp only [List.map_cons]; rw [h])
      · exact .inr rfl
theorem withE_pos (nb : Nat) (x : Int) : ∀ l : List (Nat × Int × Int), (∀ e ∈ l, 1 ≤ e.2.2) → ∀ e ∈ withE nb x l, 1 ≤ e.2.2
  | [], _, e, he => by
    simp only [withE, List.mem_singleton] at he
    subst he; exact Int.le_refl _
  | q :: es, h, e, he => by
    simp only [withE] at he
    split at he
    · rcases List.mem_cons.1 he with rfl | he
      · exact Int.le_refl _
      · exact h e he
    · split at he
      · rcases List.mem_cons.1 he with rfl | he
        · exact h _ List.mem_cons_self
        · exact withE_pos nb x es (fun q hq => h q (List.mem_cons_of_mem _ hq)) e he
      · rcases List.mem_cons.1 he with rfl | he
        · have := h q List.mem_cons_self
          show 1 ≤ q.2.2 + 1
          omega
        · exact h e (List.mem_cons_of_mem _ he)
theorem withE_tot (nb : Nat) (x : Int) : ∀ l : List (Nat × Int × Int), totE (withE nb x l) = totE l + 1
  | [] => by simp [withE, totE]
  | q :: es => by
    have ih := withE_tot nb x es
    simp only [totE] at ih
    simp only [withE]
    split
    · simp only [totE, List.map_cons, List.sum_cons]; omega
    · split
      · simp only [totE, List.map_cons, List.sum_cons]; omega
      · simp only [totE, List.map_cons, List.sum_cons]; omega
theorem withE_mem (nb : Nat) (x : Int) : ∀ (l : List (Nat × Int × Int)), ∀ e ∈ withE nb x l, e.2.1 = x ∨ ∃ q ∈ l, q.2.1 = e.2.1
  | [], e, he => by
    simp only [withE, List.mem_singleton] at he
    subst he; exact .inl rfl
  | q :: es, e, he => by
    simp only [withE] at he
    split at he
    · rcases List.mem_cons.1 he with rfl | he
      · exact .inl rfl
      · exact .inr ⟨e, he, rfl⟩
    · split at he
      · rcases List.mem_cons.1 he with rfl | he
        · exact .inr ⟨_, List.mem_cons_self, rfl⟩
        · rcases withE_mem nb x es e he with h | ⟨w, hw, e1⟩
          · exact .inl h
          · exact .inr ⟨w, List.mem_cons_of_mem _ hw, e1⟩
      · rcases List.mem_cons.1 he with rfl | he
        · exact .inr ⟨q, List.mem_cons_self, rfl⟩
        · exact .inr ⟨e, List.mem_cons_of_mem _ he, rfl⟩
theorem withE_ord (nb : Nat) (x : Int) : ∀ l : List (Nat × Int × Int), Ord l → Ord (withE nb x l)
  | [], _ => List.pairwise_singleton _ _
  | q :: es, h => by
    obtain ⟨h1, h2⟩ := List.pairwise_cons.1 h
    simp only [withE]
    split
    · rename_i c
      refine List.pairwise_cons.2 ⟨fun e he => ?_, h⟩
      rcases List.mem_cons.1 he with rfl | he
      · exact c
      · exact Int.lt_trans c (h1 e he)
    · split
      · rename_i c
        refine List.pairwise_cons.2 ⟨fun e he => ?_, withE_ord nb x es h2⟩
        rcases withE_mem nb x es e he with e1 | ⟨w, hw, e1⟩
        · rw [e1]; exact c
        · rw [← e1]; exact h1 w hw
      · exact List.pairwise_cons.2 ⟨fun e he => h1 e he, h2⟩
/-- A thing more: what a tally's tree is, stays. -/
theorem Ok.withT {t : T3} (h : Ok t) {nb : Nat} (hn : nb ∉ t.blks) (x : Int) (ht : t.tot < 100000) : Ok (withT nb x t) := by
  have e := withT_ent nb x t h.ord
  have pe := (pos_ent t).1 h.pos
  refine ⟨?_, (pos_ent _).2 (by rw [e]; exact withE_pos nb x _ pe), by rw [e]; exact withE_ord nb x _ h.ord, by rw [T3.tot_ent, e, withE_tot, ← T3.tot_ent]; omega⟩
  rw [(T3.blks_ent _).nodup_iff, e]
  have hb := T3.blks_ent t
  rcases withE_blk nb x t.ent with q | q
  · rw [q.nodup_iff]
    exact List.nodup_cons.2 ⟨fun m => hn (hb.mem_iff.2 m), hb.nodup_iff.1 h.nd⟩
  · rw [q]; exact hb.nodup_iff.1 h.nd
theorem withT_blk {t : T3} (h : Ord t.ent) (nb : Nat) (x : Int) {c : Nat} (hc : c ∈ (withT nb x t).blks) : c = nb ∨ c ∈ t.blks := by
  have m := (T3.blks_ent _).mem_iff.1 hc
  rw [withT_ent nb x t h] at m
  have hb := T3.blks_ent t
  rcases withE_blk nb x t.ent with q | q
  · rcases List.mem_cons.1 (q.mem_iff.1 m) with e | e
    · exact .inl e
    · exact .inr (hb.mem_iff.2 e)
  · rw [q] at m; exact .inr (hb.mem_iff.2 m)
end Go.Proofs.Ytlglopainaploaa.Tal
/-! Trees, in plain Lean: with on a heap of knots makes the tree with a thing more. -/
namespace Go.Proofs.Ytlglopainaploaa.Tal
open Go.RowKit Go.Proofs.YtlglopainaploaaW.PrintWords Go.Proofs.YtlglopainaploaaW.PrintLast Go.Proofs.YtlglopainaploaaW.PrintMore
set_option linter.unusedVariables false
set_option linter.unusedSimpArgs false

theorem In.same {H H1 : KH} : ∀ {t : T3}, In H t → (∀ c ∈ t.blks, H1 c = H c) → In H1 t
  | .nil, _, _ => trivial
  | .node b x o l r, h, f => ⟨(f b (by simp [T3.blks])).trans h.1, In.same h.2.1 (fun c hc => f c (by simp [T3.blks, hc])), In.same h.2.2 (fun c hc => f c (by simp [T3.blks, hc]))⟩
theorem Ok.left {b : Nat} {x o : Int} {l r : T3} (h : Ok (.node b x o l r)) : Ok l ∧ Ok r ∧ 1 ≤ o ∧ b ∉ l.blks ∧ b ∉ r.blks ∧ (∀ c ∈ l.blks, c ∉ r.blks) := by
  obtain ⟨nd, pos, ord, tot⟩ := h
  simp only [T3.blks, List.nodup_cons, List.mem_append, not_or] at nd
  obtain ⟨⟨bl, br⟩, nd⟩ := nd
  rw [List.nodup_append] at nd
  obtain ⟨nl, nr, dis⟩ := nd
  obtain ⟨p0, pl, pr⟩ := pos
  have al := pl.le
  have ar := pr.le
  simp only [T3.tot] at tot
  unfold Ord at ord
  simp only [T3.ent] at ord
  rw [List.pairwise_append, List.pairwise_cons] at ord
  exact ⟨⟨nl, pl, ord.1, by omega⟩, ⟨nr, pr, ord.2.1.2, by omega⟩, p0, bl, br, fun c h1 h2 => dis c h1 c h2 rfl⟩
theorem withT_tot {t : T3} (h : Ord t.ent) (nb : Nat) (x : Int) : (withT nb x t).tot = t.tot + 1 := by
  rw [T3.tot_ent, withT_ent nb x t h, withE_tot, ← T3.tot_ent]
theorem leaf_count (H : KH) (nb : Nat) (x : Int) : countK (H.put nb (leafK x)) (leafK x) = some (T3.node nb x 1 .nil .nil).kn := by
  unfold countK leafK
  have e : wrap64 (1 + 0) = 1 := w64 (x := 1) (by decide) (by decide)
  simp only [totalH, sizeH, Option.bind_some]
  rw [e, e]
  rfl
theorem with_tree {nb : Nat} {x : Int} : ∀ (t : T3) (n : Nat) {H : KH}, In H t → Ok t → nb ∉ t.blks → t.tot < 100000 → t.sz < n →
    ∃ H' g, withH n nb H t.root x = some (g, H') ∧ In H' (withT nb x t) ∧ (withT nb x t).root = some g ∧ ∀ c, c ≠ nb → c ∉ t.blks → H' c = H c
  | .nil, n, H, _, _, _, _, hn => by
    obtain ⟨n, rfl⟩ : ∃ m, n = m + 1 := ⟨n - 1, by simp only [T3.sz] at hn; omega⟩
    refine ⟨(H.put nb (leafK x)).put nb (T3.node nb x 1 .nil .nil).kn, nb, ?_, ?_, rfl, fun c h _ => ?_⟩
    · simp only [withH, T3.root]
      rw [leaf_count]
      rfl
    · exact ⟨put_same _ _ _, trivial, trivial⟩
    · rw [put_ne _ _ h, put_ne _ _ h]
  | .node b y o l r, n, H, hi, ok, hnb, ht, hn => by
    obtain ⟨n, rfl⟩ : ∃ m, n = m + 1 := ⟨n - 1, by have := (T3.node b y o l r).sz0; omega⟩
    obtain ⟨okl, okr, po, bl, br, dis⟩ := ok.left
    have zl := l.sz0
    have zr := r.sz0
    have al := okl.pos.le
    have ar := okr.pos.le
    simp only [T3.sz] at hn
    simp only [T3.tot] at ht
    simp only [T3.blks, List.mem_cons, List.mem_append, not_or] at hnb
    obtain ⟨nb1, nbl, nbr⟩ := hnb
    obtain ⟨hb, hl, hr⟩ := hi
    simp only [withH, T3.root, withT]
    rw [hb]
    simp only [Option.bind_some]
    show ∃ H' g, (if x < y then _ else _) = some (g, H') ∧ _
    by_cases c1 : x < y
    · rw [if_pos c1, if_pos c1]
      obtain ⟨H1, g1, e1, i1, r1, f1⟩ := with_tree l n hl okl nbl (by omega) (by omega)
      rw [show (T3.node b y o l r).kn.l = l.root from rfl, e1]
      simp only [Option.bind_some]
      rw [f1 b (fun e => nb1 e.symm) bl, hb]
      simp only [Option.bind_some]
      have okw := okl.withT nbl x (by omega)
      have ir : In H1 r := hr.same (fun c hc => f1 c (fun e => nbr (e ▸ hc)) (fun q => dis c q hc))
      have bw : b ∉ (withT nb x l).blks := fun q => (withT_blk okl.ord nb x q).elim (fun e => nb1 e.symm) bl
      obtain ⟨H2, g2, e2, i2, r2, f2⟩ := bal_tree (H := H1.put b { (T3.node b y o l r).kn with l := some g1 }) (b := b) (x := y) (o := o) (l := withT nb x l) (r := r) ⟨_, put_same _ _ _, rfl, rfl, r1.symm, rfl⟩ (i1.put bw) (ir.put br)
        (List.nodup_cons.2 ⟨by rw [List.mem_append, not_or]; exact ⟨bw, br⟩, List.nodup_append.2 ⟨okw.nd, okr.nd, fun a ha c hc e => by subst e; exact (withT_blk okl.ord nb x ha).elim (fun e => nbr (e ▸ hc)) (fun q => dis a q hc)⟩⟩) po okw.pos okr.pos (by simp only [T3.tot]; rw [withT_tot okl.ord]; omega)
      refine ⟨H2, g2, e2, i2, r2, fun c h1 h2 => ?_⟩
      simp only [T3.blks, List.mem_cons, List.mem_append, not_or] at h2
      rw [f2 c h2.1 (fun q => (withT_blk okl.ord nb x q).elim h1 h2.2.1) h2.2.2, put_ne _ _ h2.1, f1 c h1 h2.2.1]
    · rw [if_neg c1, if_neg c1]
      by_cases c2 : y < x
      · rw [if_pos (show (T3.node b y o l r).kn.x < x from c2), if_pos c2]
        obtain ⟨H1, g1, e1, i1, r1, f1⟩ := with_tree r n hr okr nbr (by omega) (by omega)
        rw [show (T3.node b y o l r).kn.r = r.root from rfl, e1]
        simp only [Option.bind_some]
        rw [f1 b (fun e => nb1 e.symm) br, hb]
        simp only [Option.bind_some]
        have okw := okr.withT nbr x (by omega)
        have il : In H1 l := hl.same (fun c hc => f1 c (fun e => nbl (e ▸ hc)) (fun q => dis c hc q))
        have bw : b ∉ (withT nb x r).blks := fun q => (withT_blk okr.ord nb x q).elim (fun e => nb1 e.symm) br
        obtain ⟨H2, g2, e2, i2, r2, f2⟩ := bal_tree (H := H1.put b { (T3.node b y o l r).kn with r := some g1 }) (b := b) (x := y) (o := o) (l := l) (r := withT nb x r) ⟨_, put_same _ _ _, rfl, rfl, rfl, r1.symm⟩ (il.put bl) (i1.put bw)
          (List.nodup_cons.2 ⟨by rw [List.mem_append, not_or]; exact ⟨bl, bw⟩, List.nodup_append.2 ⟨okl.nd, okw.nd, fun a ha c hc e => by subst e; exact (withT_blk okr.ord nb x hc).elim (fun e => nbl (e ▸ ha)) (fun q => dis a ha q)⟩⟩) po okl.pos okw.pos (by simp only [T3.tot]; rw [withT_tot okr.ord]; omega)
        refine ⟨H2, g2, e2, i2, r2, fun c h1 h2 => ?_⟩
        simp only [T3.blks, List.mem_cons, List.mem_append, not_or] at h2
        rw [f2 c h2.1 h2.2.1 (fun q => (withT_blk okr.ord nb x q).elim h1 h2.2.2), put_ne _ _ h2.1, f1 c h1 h2.2.2]
      · rw [if_neg (show ¬ (T3.node b y o l r).kn.x < x from c2), if_neg c2]
        have wo : wrap64 ((T3.node b y o l r).kn.often + 1) = o + 1 := w64 (x := o + 1) (by omega) (by omega)
        rw [wo]
        obtain ⟨H2, g2, e2, i2, r2, f2⟩ := bal_tree (H := H.put b { (T3.node b y o l r).kn with often := o + 1 }) (b := b) (x := y) (o := o + 1) (l := l) (r := r) ⟨_, put_same _ _ _, rfl, rfl, rfl, rfl⟩ (hl.put bl) (hr.put br)
          (List.nodup_cons.2 ⟨by rw [List.mem_append, not_or]; exact ⟨bl, br⟩, List.nodup_append.2 ⟨okl.nd, okr.nd, fun a ha c hc e => by subst e; exact dis a ha hc⟩⟩) (by omega) okl.pos okr.pos (by simp only [T3.tot]; omega)
        refine ⟨H2, g2, e2, i2, r2, fun c h1 h2 => ?_⟩
        simp only [T3.blks, List.mem_cons, List.mem_append, not_or] at h2
        rw [f2 c h2.1 h2.2.1 h2.2.2, put_ne _ _ h2.1]
end Go.Proofs.Ytlglopainaploaa.Tal
/-! Trees, in plain Lean: what is asked of them. -/
namespace Go.Proofs.Ytlglopainaploaa.Tal
open Go.RowKit Go.Proofs.YtlglopainaploaaW.PrintWords Go.Proofs.YtlglopainaploaaW.PrintLast Go.Proofs.YtlglopainaploaaW.PrintMore
set_option linter.unusedVariables false
set_option linter.unusedSimpArgs false

def oftE (l : List (Nat × Int × Int)) (x : Int) : Int := totE (l.filter fun e => decide (e.2.1 = x))
def belE (l : List (Nat × Int × Int)) (x : Int) : Int := totE (l.filter fun e => decide (e.2.1 < x))
theorem totE_app (a c : List (Nat × Int × Int)) : totE (a ++ c) = totE a + totE c := by simp [totE]
theorem totE_cons (e : Nat × Int × Int) (c : List (Nat × Int × Int)) : totE (e :: c) = e.2.2 + totE c := by simp [totE]
theorem filt_none {l : List (Nat × Int × Int)} {p : Nat × Int × Int → Bool} (h : ∀ e ∈ l, p e = false) : l.filter p = [] := List.filter_eq_nil_iff.2 (fun e he => by rw [h e he]; decide)
theorem filt_all {l : List (Nat × Int × Int)} {p : Nat × Int × Int → Bool} (h : ∀ e ∈ l, p e = true) : l.filter p = l := List.filter_eq_self.2 h
theorem Ok.sides {b : Nat} {x o : Int} {l r : T3} (h : Ok (.node b x o l r)) : (∀ e ∈ l.ent, e.2.1 < x) ∧ (∀ e ∈ r.ent, x < e.2.1) := by
  have ord := h.ord
  unfold Ord at ord
  simp only [T3.ent] at ord
  rw [List.pairwise_append, List.pairwise_cons] at ord
  exact ⟨fun e he => ord.2.2 e he _ List.mem_cons_self, fun e he => ord.2.1.1 e he⟩
theorem often_tree {x : Int} : ∀ (t : T3) (n : Nat) {H : KH}, In H t → Ok t → t.sz < n → oftenH n H t.root x = some (oftE t.ent x)
  | .nil, n, H, _, _, hn => by
    obtain ⟨n, rfl⟩ : ∃ m, n = m + 1 := ⟨n - 1, by simp only [T3.sz] at hn; omega⟩
    rfl
  | .node b y o l r, n, H, hi, ok, hn => by
    obtain ⟨n, rfl⟩ : ∃ m, n = m + 1 := ⟨n - 1, by have := (T3.node b y o l r).sz0; omega⟩
    obtain ⟨okl, okr, po, bl, br, dis⟩ := ok.left
    obtain ⟨sl, sr⟩ := ok.sides
    have zl := l.sz0
    have zr := r.sz0
    simp only [T3.sz] at hn
    obtain ⟨hb, hl, hr⟩ := hi
    have e1 := often_tree (x := x) l n hl okl (by omega)
    have e2 := often_tree (x := x) r n hr okr (by omega)
    simp only [oftenH, T3.root]
    rw [hb]
    simp only [Option.bind_some]
    show (if x < y then oftenH n H l.root x else if y < x then oftenH n H r.root x else some o) = _
    unfold oftE
    simp only [T3.ent, List.filter_append, List.filter_cons]
    rw [totE_app]
    by_cases c1 : x < y
    · rw [if_pos c1, e1]
      rw [filt_none (l := r.ent) (fun e he => by have := sr e he; exact decide_eq_false (by omega)), if_neg (by simp; omega)]
      simp [oftE, totE]
    · rw [if_neg c1]
      by_cases c2 : y < x
      · rw [if_pos c2, e2]
        rw [filt_none (l := l.ent) (fun e he => by have := sl e he; exact decide_eq_false (by omega)), if_neg (by simp; omega)]
        simp [oftE, totE]
      · rw [if_neg c2, if_pos (by simp; omega)]
        rw [filt_none (l := l.ent) (fun e he => by have := sl e he; exact decide_eq_false (by omega)), filt_none (l := r.ent) (fun e he => by have := sr e he; exact decide_eq_false (by omega))]
        simp [totE]
theorem totE_nonneg {l : List (Nat × Int × Int)} (h : ∀ e ∈ l, 1 ≤ e.2.2) : 0 ≤ totE l := by
  induction l with
  | nil => exact Int.le_refl _
  | cons e es ih =>
    rw [totE_cons]
    have := ih (fun q hq => h q (List.mem_cons_of_mem _ hq))
    have := h e List.mem_cons_self
    omega
theorem totE_filter {l : List (Nat × Int × Int)} (h : ∀ e ∈ l, 1 ≤ e.2.2) (p : Nat × Int × Int → Bool) : 0 ≤ totE (l.filter p) ∧ totE (l.filter p) ≤ totE l := by
  induction l with
  | nil => exact ⟨Int.le_refl _, Int.le_refl _⟩
  | cons e es ih =>
    have i := ih (fun q hq => h q (List.mem_cons_of_mem _ hq))
    have := h e List.mem_cons_self
    rw [List.filter_cons]
    split
    · rw [totE_cons, totE_cons]; omega
    · rw [totE_cons]; omega
theorem below_tree {x : Int} : ∀ (t : T3) (n : Nat) {H : KH} {a : Int}, In H t → Ok t → t.sz < n → 0 ≤ a → a + t.tot ≤ 1000000 → belowH n H t.root x a = some (a + belE t.ent x)
  | .nil, n, H, a, _, _, hn, _, _ => by
    obtain ⟨n, rfl⟩ : ∃ m, n = m + 1 := ⟨n - 1, by simp only [T3.sz] at hn; omega⟩
    simp [belowH, T3.root, belE, T3.ent, totE]
  | .node b y o l r, n, H, a, hi, ok, hn, a0, a1 => by
    obtain ⟨n, rfl⟩ : ∃ m, n = m + 1 := ⟨n - 1, by have := (T3.node b y o l r).sz0; omega⟩
    obtain ⟨okl, okr, po, bl, br, dis⟩ := ok.left
    obtain ⟨sl, sr⟩ := ok.sides
    have zl := l.sz0
    have zr := r.sz0
    have al := okl.pos.le
    have ar := okr.pos.le
    simp only [T3.sz] at hn
    simp only [T3.tot] at a1
    obtain ⟨hb, hl, hr⟩ := hi
    simp only [belowH, T3.root]
    rw [hb]
    simp only [Option.bind_some]
    show (if x ≤ y then belowH n H l.root x a else (totalH H l.root).bind fun t => belowH n H r.root x (wrap64 (a + wrap64 (t + o)))) = _
    unfold belE
    simp only [T3.ent, List.filter_append, List.filter_cons]
    rw [totE_app]
    by_cases c1 : x ≤ y
    · rw [if_pos c1, below_tree (x := x) l n hl okl (by omega) a0 (by omega)]
      rw [filt_none (l := r.ent) (fun e he => by have := sr e he; exact decide_eq_false (by omega)), if_neg (by simp; omega)]
      simp [belE, totE]
    · rw [if_neg c1, hl.total]
      simp only [Option.bind_some]
      rw [w64 (x := l.tot + o) (by omega) (by omega), w64 (x := a + (l.tot + o)) (by omega) (by omega), below_tree (x := x) r n hr okr (by omega) (by omega) (by omega)]
      rw [filt_all (l := l.ent) (fun e he => by have := sl e he; exact decide_eq_true (by omega)), if_pos (by simp; omega), totE_cons, ← T3.tot_ent]
      unfold belE
      congr 1
      show _ = a + (l.tot + (o + totE (List.filter _ r.ent)))
      omega
end Go.Proofs.Ytlglopainaploaa.Tal
/-! Trees, in plain Lean: what stands at a place. -/
namespace Go.Proofs.Ytlglopainaploaa.Tal
open Go.RowKit Go.Proofs.YtlglopainaploaaW.PrintWords Go.Proofs.YtlglopainaploaaW.PrintLast Go.Proofs.YtlglopainaploaaW.PrintMore
set_option linter.unusedVariables false
set_option linter.unusedSimpArgs false

/-- All things in order, each as often as it is there. -/
def flatE : List (Nat × Int × Int) → List Int
  | [] => []
  | e :: es => List.replicate e.2.2.toNat e.2.1 ++ flatE es
theorem flatE_app : ∀ a c : List (Nat × Int × Int), flatE (a ++ c) = flatE a ++ flatE c
  | [], c => rfl
  | e :: es, c => by simp only [List.cons_append, flatE, flatE_app es c, List.append_assoc]
theorem flatE_len : ∀ {l : List (Nat × Int × Int)}, (∀ e ∈ l, 1 ≤ e.2.2) → ((flatE l).length : Int) = totE l
  | [], _ => rfl
  | e :: es, h => by
    have h0 := h e List.mem_cons_self
    have i := flatE_len (fun q hq => h q (List.mem_cons_of_mem _ hq))
    simp only [flatE, List.length_append, List.length_replicate]
    simp only [totE, List.map_cons, List.sum_cons] at i ⊢
    omega
theorem at_tree : ∀ (t : T3) (n : Nat) {H : KH} {g : Nat} {i : Int}, In H t → Ok t → t.sz < n → t.root = some g → 0 ≤ i → i < t.tot → atH n H g i = some ((flatE t.ent).getD i.toNat 0)
  | .nil, _, _, _, _, _, _, _, hg, _, _ => by cases hg
  | .node b y o l r, n, H, g, i, hi, ok, hn, hg, i0, i1 => by
    obtain ⟨n, rfl⟩ : ∃ m, n = m + 1 := ⟨n - 1, by have := (T3.node b y o l r).sz0; omega⟩
    obtain ⟨okl, okr, po, bl, br, dis⟩ := ok.left
    have zl := l.sz0
    have zr := r.sz0
    have al := okl.pos.le
    have ar := okr.pos.le
    have tt := ok.tot
    simp only [T3.sz] at hn
    simp only [T3.tot] at i1 tt
    obtain ⟨hb, hl, hr⟩ := hi
    have fl := flatE_len ((pos_ent l).1 okl.pos)
    rw [← T3.tot_ent] at fl
    obtain rfl : b = g := Option.some.inj hg
    simp only [atH]
    rw [hb]
    simp only [Option.bind_some]
    show ((totalH H l.root).bind fun t => if i < t then l.root.bind fun c => atH n H c i else if i < wrap64 (t + o) then some y else r.root.bind fun c => atH n H c (wrap64 (i - wrap64 (t + o)))) = _
    rw [hl.total]
    simp only [Option.bind_some]
    rw [w64 (x := l.tot + o) (by omega) (by omega), w64 (x := i - (l.tot + o)) (by omega) (by omega)]
    have fe : flatE (T3.node b y o l r).ent = flatE l.ent ++ (List.replicate o.toNat y ++ flatE r.ent) := by simp only [T3.ent, flatE_app, flatE]
    rw [fe, List.getD_eq_getElem?_getD]
    by_cases c1 : i < l.tot
    · rw [if_pos c1]
      obtain ⟨c, hc⟩ : ∃ c, l.root = some c := by
        cases l with
        | nil => simp only [T3.tot] at c1; omega
        | node a _ _ _ _ => exact ⟨a, rfl⟩
      rw [hc]
      simp only [Option.bind_some]
      rw [at_tree l n hl okl (by omega) hc i0 c1, List.getElem?_append_left (by omega), List.getD_eq_getElem?_getD]
    · rw [if_neg c1, List.getElem?_append_right (by omega)]
      by_cases c2 : i < l.tot + o
      · rw [if_pos c2, List.getElem?_append_left (by rw [List.length_replicate]; omega), List.getElem?_replicate, if_pos (by omega)]
        rfl
      · rw [if_neg c2, List.getElem?_append_right (by rw [List.length_replicate]; omega), List.length_replicate]
        obtain ⟨c, hc⟩ : ∃ c, r.root = some c := by
          cases r with
          | nil => simp only [T3.tot] at i1; omega
          | node a _ _ _ _ => exact ⟨a, rfl⟩
        rw [hc]
        simp only [Option.bind_some]
        rw [at_tree r n hr okr (by omega) hc (by omega) (by omega), List.getD_eq_getElem?_getD]
        congr 3
        omega
theorem withE_flat (nb : Nat) (x : Int) : ∀ {l : List (Nat × Int × Int)}, (∀ e ∈ l, 1 ≤ e.2.2) → (flatE (withE nb x l)).Perm (x :: flatE l)
  | [], _ => .refl _
  | e :: es, h => by
    have h0 := h e List.mem_cons_self
    simp only [withE]
    split
    · exact .refl _
    · split
      · simp only [flatE]
        exact ((withE_flat nb x (fun q hq => h q (List.mem_cons_of_mem _ hq))).append_left _).trans List.perm_middle
      · rename_i c1 c2
        have ex : e.2.1 = x := by omega
        simp only [flatE]
        rw [show (e.2.2 + 1).toNat = e.2.2.toNat + 1 by omega, List.replicate_succ, ex]
        exact .refl _
theorem flat_mem {l : List (Nat × Int × Int)} {y : Int} (h : y ∈ flatE l) : ∃ e ∈ l, e.2.1 = y := by
  induction l with
  | nil => cases h
  | cons e es ih =>
    simp only [flatE, List.mem_append] at h
    rcases h with h | h
    · exact ⟨e, List.mem_cons_self, (List.eq_of_mem_replicate h).symm⟩
    · obtain ⟨q, hq, e1⟩ := ih h
      exact ⟨q, List.mem_cons_of_mem _ hq, e1⟩
theorem flat_sorted : ∀ {l : List (Nat × Int × Int)}, Ord l → (flatE l).Pairwise (· ≤ ·)
  | [], _ => List.Pairwise.nil
  | e :: es, h => by
    obtain ⟨h1, h2⟩ := List.pairwise_cons.1 h
    simp only [flatE]
    refine List.pairwise_append.2 ⟨?_, flat_sorted h2, fun a ha c hc => ?_⟩
    · exact List.pairwise_replicate.2 (.inr (Int.le_refl _))
    · rw [List.eq_of_mem_replicate ha]
      obtain ⟨q, hq, e1⟩ := flat_mem hc
      rw [← e1]
      exact Int.le_of_lt (h1 q hq)
end Go.Proofs.Ytlglopainaploaa.Tal
/-! Trees, in plain Lean: a thing less. -/
namespace Go.Proofs.Ytlglopainaploaa.Tal
open Go.RowKit Go.Proofs.YtlglopainaploaaW.PrintWords Go.Proofs.YtlglopainaploaaW.PrintLast Go.Proofs.YtlglopainaploaaW.PrintMore
set_option linter.unusedVariables false
set_option linter.unusedSimpArgs false

/-- A tree without its first knot, and that. -/
def cutT : T3 → T3 × (Nat × Int × Int)
  | .nil => (.nil, (0, 0, 0))
  | .node b x o l r => match l with
    | .nil => (r, (b, x, o))
    | .node b' x' o' l' r' => (balT b x o (cutT (.node b' x' o' l' r')).1 r, (cutT (.node b' x' o' l' r')).2)
theorem cutT_nil (b : Nat) (x o : Int) (r : T3) : cutT (.node b x o .nil r) = (r, (b, x, o)) := by rw [cutT]
theorem cutT_node (b : Nat) (x o : Int) {l : T3} (r : T3) (h : l ≠ .nil) : cutT (.node b x o l r) = (balT b x o (cutT l).1 r, (cutT l).2) := by
  cases l with
  | nil => exact absurd rfl h
  | node b' x' o' l' r' => rw [cutT]
theorem cutT_ent : ∀ t : T3, t ≠ .nil → t.ent = (cutT t).2 :: (cutT t).1.ent
  | .nil, h => absurd rfl h
  | .node b x o l r, _ => by
    by_cases hl : l = .nil
    · subst hl; rw [cutT_nil]; rfl
    · rw [cutT_node b x o r hl]
      dsimp only
      rw [balT_ent, T3.ent, cutT_ent l hl]
      rfl
/-- A thing less. -/
def withoutT (x : Int) : T3 → T3
  | .nil => .nil
  | .node b y o l r => if x < y then balT b y o (withoutT x l) r else if y < x then balT b y o l (withoutT x r) else if 1 < o then balT b y (o - 1) l r
    else if l.root = none then r else if r.root = none then l else balT (cutT r).2.1 (cutT r).2.2.1 (cutT r).2.2.2 l (cutT r).1
def withoutE (x : Int) : List (Nat × Int × Int) → List (Nat × Int × Int)
  | [] => []
  | e :: es => if e.2.1 = x then (if 1 < e.2.2 then (e.1, e.2.1, e.2.2 - 1) :: es else es) else e :: withoutE x es
theorem withoutE_app {x : Int} : ∀ {l : List (Nat × Int × Int)} (r : List (Nat × Int × Int)), (∀ e ∈ l, e.2.1 ≠ x) → withoutE x (l ++ r) = l ++ withoutE x r
  | [], _, _ => rfl
  | e :: es, r, h => by
    simp only [List.cons_append, withoutE]
    rw [if_neg (h e List.mem_cons_self), withoutE_app r (fun q hq => h q (List.mem_cons_of_mem _ hq))]
theorem withoutE_off {x : Int} {l : List (Nat × Int × Int)} (h : ∀ e ∈ l, e.2.1 ≠ x) : withoutE x l = l := by
  have := withoutE_app [] h
  simpa [withoutE] using this
theorem withoutE_left {x : Int} : ∀ {l : List (Nat × Int × Int)} {r : List (Nat × Int × Int)}, (∀ e ∈ r, e.2.1 ≠ x) → withoutE x (l ++ r) = withoutE x l ++ r
  | [], r, h => withoutE_off h
  | e :: es, r, h => by
    simp only [List.cons_append, withoutE]
    split
    · split <;> rfl
    · rw [withoutE_left h]; rfl
theorem T3.root_none {t : T3} : t.root = none ↔ t = .nil := by
  cases t with
  | nil => exact ⟨fun _ => rfl, fun _ => rfl⟩
  | node _ _ _ _ _ => exact ⟨fun h => (by cases h), fun h => (by cases h)⟩
theorem withoutT_ent (x : Int) : ∀ t : T3, Ord t.ent → (withoutT x t).ent = withoutE x t.ent
  | .nil, _ => rfl
  | .node b y o l r, h => by
    unfold Ord at h
    simp only [T3.ent] at h
    rw [List.pairwise_append, List.pairwise_cons] at h
    obtain ⟨hl, ⟨hy, hr⟩, hlr⟩ := h
    have below : ∀ e ∈ l.ent, e.2.1 < y := fun e he => hlr e he _ List.mem_cons_self
    have above : ∀ e ∈ r.ent, y < e.2.1 := fun e he => hy e he
    simp only [withoutT, T3.ent]
    by_cases c1 : x < y
    · rw [if_pos c1, balT_ent, withoutT_ent x l hl]
      refine (withoutE_left (fun e he => ?_)).symm
      rcases List.mem_cons.1 he with rfl | he
      · show y ≠ x; omega
      · have := above e he; omega
    · rw [if_neg c1]
      by_cases c2 : y < x
      · rw [if_pos c2, balT_ent, withoutT_ent x r hr, withoutE_app _ (fun e he => by have := below e he; omega)]
        simp only [withoutE]
        rw [if_neg (by omega)]
      · have e : y = x := by omega
        rw [if_neg c2, withoutE_app _ (fun e he => by have := below e he; omega)]
        simp only [withoutE]
        rw [if_pos e]
        by_cases c3 : 1 < o
        · rw [if_pos c3, if_pos c3, balT_ent]
        · rw [if_neg c3, if_neg c3]
          by_cases c4 : l.root = none
          · rw [if_pos c4, T3.root_none.1 c4]; rfl
          · rw [if_neg c4]
            by_cases c5 : r.root = none
            · rw [if_pos c5, T3.root_none.1 c5]; simp [T3.ent]
            · rw [if_neg c5, balT_ent, cutT_ent r (fun q => c5 (T3.root_none.2 q))]
theorem withoutE_sub (x : Int) : ∀ l : List (Nat × Int × Int), ((withoutE x l).map fun e => e.1).Sublist (l.map fun e => e.1)
  | [] => .slnil
  | e :: es => by
    simp only [withoutE]
    split
    · split
      · exact .refl _
      · exact List.sublist_cons_self _ _
    · exact (withoutE_sub x es).cons_cons _
theorem withoutE_things (x : Int) : ∀ l : List (Nat × Int × Int), ((withoutE x l).map fun e => e.2.1).Sublist (l.map fun e => e.2.1)
  | [] => .slnil
  | e :: es => by
    simp only [withoutE]
    split
    · split
      · exact .refl _
      · exact List.sublist_cons_self _ _
    · exact (withoutE_things x es).cons_cons _
theorem ord_map {l : List (Nat × Int × Int)} : Ord l ↔ (l.map fun e => e.2.1).Pairwise (· < ·) := by
  unfold Ord
  rw [List.pairwise_map]
theorem withoutE_pos (x : Int) : ∀ l : List (Nat × Int × Int), (∀ e ∈ l, 1 ≤ e.2.2) → ∀ e ∈ withoutE x l, 1 ≤ e.2.2
  | [], _, e, he => by cases he
  | q :: es, h, e, he => by
    simp only [withoutE] at he
    split at he
    · split at he
      · rename_i c
        rcases List.mem_cons.1 he with rfl | he
        · show 1 ≤ q.2.2 - 1; omega
        · exact h e (List.mem_cons_of_mem _ he)
      · exact h e (List.mem_cons_of_mem _ he)
    · rcases List.mem_cons.1 he with rfl | he
      · exact h _ List.mem_cons_self
      · exact withoutE_pos x es (fun q hq => h q (List.mem_cons_of_mem _ hq)) e he
theorem withoutE_flat (x : Int) : ∀ {l : List (Nat × Int × Int)}, (∀ e ∈ l, 1 ≤ e.2.2) → (∃ e ∈ l, e.2.1 = x) → (x :: flatE (withoutE x l)).Perm (flatE l)
  | [], _, ⟨_, h, _⟩ => by cases h
  | e :: es, h, hx => by
    have h0 := h e List.mem_cons_self
    simp only [withoutE]
    by_cases c : e.2.1 = x
    · rw [if_pos c]
      split
      · simp only [flatE]
        rw [show e.2.2.toNat = (e.2.2 - 1).toNat + 1 by omega, List.replicate_succ, c]
        exact .refl _
      · simp only [flatE]
        rw [show e.2.2.toNat = 0 + 1 by omega, List.replicate_succ, c]
        exact .refl _
    · rw [if_neg c]
      simp only [flatE]
      obtain ⟨q, hq, e1⟩ := hx
      rcases List.mem_cons.1 hq with rfl | hq
      · exact absurd e1 c
      · exact List.perm_middle.symm.trans ((withoutE_flat x (fun q hq => h q (List.mem_cons_of_mem _ hq)) ⟨q, hq, e1⟩).append_left _)
theorem withoutE_tot (x : Int) {l : List (Nat × Int × Int)} (h : ∀ e ∈ l, 1 ≤ e.2.2) (hx : ∃ e ∈ l, e.2.1 = x) : totE (withoutE x l) = totE l - 1 := by
  have a := flatE_len h
  have b := flatE_len (withoutE_pos x l h)
  have p := (withoutE_flat x h hx).length_eq
  simp only [List.length_cons] at p
  omega
theorem withoutE_le (x : Int) : ∀ {l : List (Nat × Int × Int)}, (∀ e ∈ l, 1 ≤ e.2.2) → totE (withoutE x l) ≤ totE l
  | [], _ => Int.le_refl _
  | e :: es, h => by
    have h0 := h e List.mem_cons_self
    have i := withoutE_le x (fun q hq => h q (List.mem_cons_of_mem _ hq))
    simp only [withoutE]
    split
    · split
      · simp only [totE_cons]; omega
      · simp only [totE_cons]; omega
    · simp only [totE_cons]; omega
/-- What a tally's tree is, stays. -/
theorem Ok.withoutT {t : T3} (h : Ok t) (x : Int) : Ok (withoutT x t) := by
  have e := withoutT_ent x t h.ord
  have pe := (pos_ent t).1 h.pos
  refine ⟨?_, (pos_ent _).2 (by rw [e]; exact withoutE_pos x _ pe), ?_, ?_⟩
  · rw [(T3.blks_ent _).nodup_iff, e]
    exact (withoutE_sub x t.ent).nodup ((T3.blks_ent t).nodup_iff.1 h.nd)
  · rw [e]
    exact ord_map.2 ((ord_map.1 h.ord).sublist (withoutE_things x t.ent))
  · rw [T3.tot_ent, e]
    have := withoutE_le x pe
    have := h.tot
    rw [T3.tot_ent] at this
    omega
theorem withoutT_blk {t : T3} (h : Ord t.ent) (x : Int) {c : Nat} (hc : c ∈ (withoutT x t).blks) : c ∈ t.blks := by
  have m := (T3.blks_ent _).mem_iff.1 hc
  rw [withoutT_ent x t h] at m
  exact (T3.blks_ent t).mem_iff.2 ((withoutE_sub x t.ent).subset m)
theorem Ok.cutT {t : T3} (h : Ok t) (hn : t ≠ .nil) : Ok (cutT t).1 ∧ (cutT t).2.1 ∉ (cutT t).1.blks ∧ (cutT t).2.1 ∈ t.blks ∧ (∀ c ∈ (cutT t).1.blks, c ∈ t.blks) ∧ 1 ≤ (cutT t).2.2.2 ∧ (cutT t).1.tot + (cutT t).2.2.2 = t.tot := by
  have e := cutT_ent t hn
  have pe := (pos_ent t).1 h.pos
  have ho := h.ord
  have nd := (T3.blks_ent t).nodup_iff.1 h.nd
  rw [e] at pe ho nd
  rw [List.map_cons, List.nodup_cons] at nd
  have tt : totE t.ent = (Tal.cutT t).2.2.2 + totE (Tal.cutT t).1.ent := by rw [e, totE_cons]
  have p0 := pe _ List.mem_cons_self
  have pr : ∀ q ∈ (Tal.cutT t).1.ent, 1 ≤ q.2.2 := fun q hq => pe q (List.mem_cons_of_mem _ hq)
  have mm : ∀ c, c ∈ t.blks ↔ c = (Tal.cutT t).2.1 ∨ c ∈ (Tal.cutT t).1.ent.map fun e => e.1 := fun c => by
    rw [(T3.blks_ent t).mem_iff, e, List.map_cons, List.mem_cons]
  have h4 := h.tot
  rw [T3.tot_ent] at h4
  refine ⟨⟨?_, (pos_ent _).2 pr, (List.pairwise_cons.1 ho).2, ?_⟩, ?_, ?_, ?_, p0, ?_⟩
  · rw [(T3.blks_ent _).nodup_iff]; exact nd.2
  · rw [T3.tot_ent]; omega
  · rw [(T3.blks_ent _).mem_iff]; exact nd.1
  · exact (mm _).2 (.inl rfl)
  · intro c hc
    exact (mm c).2 (.inr ((T3.blks_ent _).mem_iff.1 hc))
  · rw [T3.tot_ent, T3.tot_ent]; omega
theorem root_some {t : T3} {g : Nat} (h : t.root = some g) : t ≠ .nil := fun e => by subst e; cases h
/-- cut on a heap of knots. -/
theorem cut_tree : ∀ (t : T3) (n : Nat) {H : KH} {g : Nat}, In H t → Ok t → t.root = some g → t.sz < n →
    ∃ H', cutH n H g = some ((cutT t).1.root, (cutT t).2.1, H') ∧ In H' (cutT t).1 ∧ (∃ k, H' (cutT t).2.1 = some k ∧ k.x = (cutT t).2.2.1 ∧ k.often = (cutT t).2.2.2) ∧ ∀ c, c ∉ t.blks → H' c = H c
  | .nil, _, _, _, _, _, h, _ => by cases h
  | .node b x o l r, n, H, g, hi, ok, hg, hn => by
    obtain ⟨n, rfl⟩ : ∃ m, n = m + 1 := ⟨n - 1, by have := (T3.node b x o l r).sz0; omega⟩
    obtain ⟨okl, okr, po, bl, br, dis⟩ := ok.left
    have zl := l.sz0
    have zr := r.sz0
    have al := okl.pos.le
    have ar := okr.pos.le
    have tt := ok.tot
    simp only [T3.sz] at hn
    simp only [T3.tot] at tt
    obtain ⟨hb, hl, hr⟩ := hi
    obtain rfl : b = g := Option.some.inj hg
    by_cases hln : l = .nil
    · subst hln
      rw [cutT_nil]
      exact ⟨H, cutH_none hb rfl, hr, ⟨_, hb, rfl, rfl⟩, fun _ _ => rfl⟩
    · obtain ⟨c, hc⟩ : ∃ c, l.root = some c := by
        cases l with
        | nil => exact absurd rfl hln
        | node a _ _ _ _ => exact ⟨a, rfl⟩
      obtain ⟨H1, e1, i1, ⟨k, hk, kx, ko⟩, f1⟩ := cut_tree l n hl okl hc (by omega)
      obtain ⟨okc, cu, cm, cs, c1, ct⟩ := okl.cutT hln
      rw [cutT_node b x o r hln, cutH_some hb hc, e1]
      simp only [Option.bind_some]
      rw [f1 b bl, hb]
      simp only [Option.bind_some]
      have ir : In H1 r := hr.same (fun c hc => f1 c (fun q => dis c q hc))
      have bw : b ∉ (cutT l).1.blks := fun q => bl (cs b q)
      obtain ⟨H2, g2, e2, i2, r2, f2⟩ := bal_tree (H := H1.put b { (T3.node b x o l r).kn with l := (cutT l).1.root }) (b := b) (x := x) (o := o) (l := (cutT l).1) (r := r) ⟨_, put_same _ _ _, rfl, rfl, rfl, rfl⟩ (i1.put bw) (ir.put br)
        (List.nodup_cons.2 ⟨by rw [List.mem_append, not_or]; exact ⟨bw, br⟩, List.nodup_append.2 ⟨okc.nd, okr.nd, fun a ha c hc e => by subst e; exact dis a (cs a ha) hc⟩⟩) po okc.pos okr.pos (by simp only [T3.tot]; omega)
      rw [e2]
      simp only [Option.bind_some]
      refine ⟨H2, by rw [r2], i2, ⟨k, ?_, kx, ko⟩, fun c h2 => ?_⟩
      · have nb1 : (cutT l).2.1 ≠ b := fun e => bl (e ▸ cm)
        rw [f2 _ nb1 cu (fun q => dis _ cm q), put_ne _ _ nb1, hk]
      · simp only [T3.blks, List.mem_cons, List.mem_append, not_or] at h2
        rw [f2 c h2.1 (fun q => h2.2.1 (cs c q)) h2.2.2, put_ne _ _ h2.1, f1 c h2.2.1]
/-- without on a heap of knots. -/
theorem without_tree {x : Int} : ∀ (t : T3) (n : Nat) {H : KH} {g : Nat}, In H t → Ok t → t.root = some g → (∃ e ∈ t.ent, e.2.1 = x) → t.sz < n →
    ∃ H', withoutH n H g x = some ((withoutT x t).root, H') ∧ In H' (withoutT x t) ∧ ∀ c, c ∉ t.blks → H' c = H c
  | .nil, _, _, _, _, _, h, _, _ => by cases h
  | .node b y o l r, n, H, g, hi, ok, hg, hx, hn => by
    obtain ⟨n, rfl⟩ : ∃ m, n = m + 1 := ⟨n - 1, by have := (T3.node b y o l r).sz0; omega⟩
    obtain ⟨okl, okr, po, bl, br, dis⟩ := ok.left
    obtain ⟨sl, sr⟩ := ok.sides
    have zl := l.sz0
    have zr := r.sz0
    have al := okl.pos.le
    have ar := okr.pos.le
    have tt := ok.tot
    simp only [T3.sz] at hn
    simp only [T3.tot] at tt
    obtain ⟨hb, hl, hr⟩ := hi
    obtain rfl : b = g := Option.some.inj hg
    obtain ⟨e0, he0, ex0⟩ := hx
    simp only [T3.ent, List.mem_append, List.mem_cons] at he0
    simp only [withoutH, withoutT]
    rw [hb]
    simp only [Option.bind_some]
    show ∃ H', (if x < y then _ else if y < x then _ else _) = some (_, H') ∧ _
    by_cases c1 : x < y
    · rw [if_pos c1, if_pos c1]
      have hxl : ∃ e ∈ l.ent, e.2.1 = x := by
        rcases he0 with h | rfl | h
        · exact ⟨e0, h, ex0⟩
        · dsimp only at ex0; omega
        · have := sr e0 h; omega
      obtain ⟨c, hc⟩ : ∃ c, l.root = some c := by
        cases l with
        | nil => obtain ⟨q, hq, _⟩ := hxl; cases hq
        | node a _ _ _ _ => exact ⟨a, rfl⟩
      obtain ⟨H1, e1, i1, f1⟩ := without_tree l n hl okl hc hxl (by omega)
      rw [show (T3.node b y o l r).kn.l = l.root from rfl, hc]
      simp only [Option.bind_some]
      rw [e1]
      simp only [Option.bind_some]
      rw [f1 b bl, hb]
      simp only [Option.bind_some]
      have okw := okl.withoutT x
      have lt : (withoutT x l).tot ≤ l.tot := by rw [T3.tot_ent, withoutT_ent x l okl.ord, T3.tot_ent l]; exact withoutE_le x ((pos_ent l).1 okl.pos)
      have ir : In H1 r := hr.same (fun c hc => f1 c (fun q => dis c q hc))
      have bw : b ∉ (withoutT x l).blks := fun q => bl (withoutT_blk okl.ord x q)
      obtain ⟨H2, g2, e2, i2, r2, f2⟩ := bal_tree (H := H1.put b { (T3.node b y o l r).kn with l := (withoutT x l).root }) (b := b) (x := y) (o := o) (l := withoutT x l) (r := r) ⟨_, put_same _ _ _, rfl, rfl, rfl, rfl⟩ (i1.put bw) (ir.put br)
        (List.nodup_cons.2 ⟨by rw [List.mem_append, not_or]; exact ⟨bw, br⟩, List.nodup_append.2 ⟨okw.nd, okr.nd, fun a ha c hc e => by subst e; exact dis a (withoutT_blk okl.ord x ha) hc⟩⟩) po okw.pos okr.pos (by simp only [T3.tot]; omega)
      rw [e2]
      refine ⟨H2, by simp only [Option.bind_some]; rw [r2], i2, fun c h2 => ?_⟩
      simp only [T3.blks, List.mem_cons, List.mem_append, not_or] at h2
      rw [f2 c h2.1 (fun q => h2.2.1 (withoutT_blk okl.ord x q)) h2.2.2, put_ne _ _ h2.1, f1 c h2.2.1]
    rw [if_neg c1, if_neg c1]
    by_cases c2 : y < x
    · rw [if_pos c2, if_pos c2]
      have hxr : ∃ e ∈ r.ent, e.2.1 = x := by
        rcases he0 with h | rfl | h
        · have := sl e0 h; omega
        · dsimp only at ex0; omega
        · exact ⟨e0, h, ex0⟩
      obtain ⟨c, hc⟩ : ∃ c, r.root = some c := by
        cases r with
        | nil => obtain ⟨q, hq, _⟩ := hxr; cases hq
        | node a _ _ _ _ => exact ⟨a, rfl⟩
      obtain ⟨H1, e1, i1, f1⟩ := without_tree r n hr okr hc hxr (by omega)
      rw [show (T3.node b y o l r).kn.r = r.root from rfl, hc]
      simp only [Option.bind_some]
      rw [e1]
      simp only [Option.bind_some]
      rw [f1 b br, hb]
      simp only [Option.bind_some]
      have okw := okr.withoutT x
      have lt : (withoutT x r).tot ≤ r.tot := by rw [T3.tot_ent, withoutT_ent x r okr.ord, T3.tot_ent r]; exact withoutE_le x ((pos_ent r).1 okr.pos)
      have il : In H1 l := hl.same (fun c hc => f1 c (fun q => dis c hc q))
      have bw : b ∉ (withoutT x r).blks := fun q => br (withoutT_blk okr.ord x q)
      obtain ⟨H2, g2, e2, i2, r2, f2⟩ := bal_tree (H := H1.put b { (T3.node b y o l r).kn with r := (withoutT x r).root }) (b := b) (x := y) (o := o) (l := l) (r := withoutT x r) ⟨_, put_same _ _ _, rfl, rfl, rfl, rfl⟩ (il.put bl) (i1.put bw)
        (List.nodup_cons.2 ⟨by rw [List.mem_append, not_or]; exact ⟨bl, bw⟩, List.nodup_append.2 ⟨okl.nd, okw.nd, fun a ha c hc e => by subst e; exact dis a ha (withoutT_blk okr.ord x hc)⟩⟩) po okl.pos okw.pos (by simp only [T3.tot]; omega)
      rw [e2]
      refine ⟨H2, by simp only [Option.bind_some]; rw [r2], i2, fun c h2 => ?_⟩
      simp only [T3.blks, List.mem_cons, List.mem_append, not_or] at h2
      rw [f2 c h2.1 h2.2.1 (fun q => h2.2.2 (withoutT_blk okr.ord x q)), put_ne _ _ h2.1, f1 c h2.2.2]
    rw [if_neg c2, if_neg c2]
    show ∃ H', (if 1 < o then _ else if l.root = none then some (r.root, H) else if r.root = none then some (l.root, H) else _) = some (_, H') ∧ _
    by_cases c3 : 1 < o
    · rw [if_pos c3, if_pos c3]
      have wo : wrap64 ((T3.node b y o l r).kn.often - 1) = o - 1 := w64 (x := o - 1) (by omega) (by omega)
      rw [wo]
      obtain ⟨H2, g2, e2, i2, r2, f2⟩ := bal_tree (H := H.put b { (T3.node b y o l r).kn with often := o - 1 }) (b := b) (x := y) (o := o - 1) (l := l) (r := r) ⟨_, put_same _ _ _, rfl, rfl, rfl, rfl⟩ (hl.put bl) (hr.put br)
        (List.nodup_cons.2 ⟨by rw [List.mem_append, not_or]; exact ⟨bl, br⟩, List.nodup_append.2 ⟨okl.nd, okr.nd, fun a ha c hc e => by subst e; exact dis a ha hc⟩⟩) (by omega) okl.pos okr.pos (by simp only [T3.tot]; omega)
      rw [e2]
      refine ⟨H2, by simp only [Option.bind_some]; rw [r2], i2, fun c h2 => ?_⟩
      simp only [T3.blks, List.mem_cons, List.mem_append, not_or] at h2
      rw [f2 c h2.1 h2.2.1 h2.2.2, put_ne _ _ h2.1]
    rw [if_neg c3, if_neg c3]
    by_cases c4 : l.root = none
    · rw [if_pos c4, if_pos c4]
      exact ⟨H, rfl, hr, fun _ _ => rfl⟩
    rw [if_neg c4, if_neg c4]
    by_cases c5 : r.root = none
    · rw [if_pos c5, if_pos c5]
      exact ⟨H, rfl, hl, fun _ _ => rfl⟩
    rw [if_neg c5, if_neg c5]
    have hrn : r ≠ .nil := fun q => c5 (T3.root_none.2 q)
    obtain ⟨c, hc⟩ : ∃ c, r.root = some c := by
      cases r with
      | nil => exact absurd rfl hrn
      | node a _ _ _ _ => exact ⟨a, rfl⟩
    obtain ⟨H1, e1, i1, ⟨k, hk, kx, ko⟩, f1⟩ := cut_tree r n hr okr hc (by omega)
    obtain ⟨okc, cu, cm, cs, co, ct⟩ := okr.cutT hrn
    rw [show (T3.node b y o l r).kn.r = r.root from rfl, hc]
    simp only [Option.bind_some]
    rw [e1]
    simp only [Option.bind_some]
    rw [f1 b br, hb]
    simp only [Option.bind_some]
    rw [hk]
    simp only [Option.bind_some]
    have il : In H1 l := hl.same (fun c hc => f1 c (fun q => dis c hc q))
    have ul : (cutT r).2.1 ∉ l.blks := fun q => dis _ q cm
    obtain ⟨H2, g2, e2, i2, r2, f2⟩ := bal_tree (H := (H1.put (cutT r).2.1 { k with l := l.root }).put (cutT r).2.1 { k with l := l.root, r := (cutT r).1.root }) (b := (cutT r).2.1) (x := (cutT r).2.2.1) (o := (cutT r).2.2.2) (l := l) (r := (cutT r).1) ⟨_, put_same _ _ _, kx, ko, rfl, rfl⟩ ((il.put ul).put ul) ((i1.put cu).put cu)
      (List.nodup_cons.2 ⟨by rw [List.mem_append, not_or]; exact ⟨ul, cu⟩, List.nodup_append.2 ⟨okl.nd, okc.nd, fun a ha c hc e => by subst e; exact dis a ha (cs a hc)⟩⟩) co okl.pos okc.pos (by simp only [T3.tot]; omega)
    show ∃ H', ((balH ((H1.put (cutT r).2.1 { k with l := l.root }).put (cutT r).2.1 { k with l := l.root, r := (cutT r).1.root }) (cutT r).2.1).bind fun t => some (some t.1, t.2)) = some (_, H') ∧ _
    rw [e2]
    refine ⟨H2, by simp only [Option.bind_some]; rw [r2], i2, fun c h2 => ?_⟩
    simp only [T3.blks, List.mem_cons, List.mem_append, not_or] at h2
    have cne : c ≠ (cutT r).2.1 := fun e => h2.2.2 (e ▸ cm)
    rw [f2 c cne h2.2.1 (fun q => h2.2.2 (cs c q)), put_ne _ _ cne, put_ne _ _ cne, f1 c h2.2.2]
end Go.Proofs.Ytlglopainaploaa.Tal
/-! Trees, in plain Lean: how high they stand. -/
namespace Go.Proofs.Ytlglopainaploaa.Tal
open Go.RowKit Go.Proofs.YtlglopainaploaaW.PrintWords Go.Proofs.YtlglopainaploaaW.PrintLast Go.Proofs.YtlglopainaploaaW.PrintMore
set_option linter.unusedVariables false
set_option linter.unusedSimpArgs false

/-- Each knot's sides are about as great. -/
def Bal : T3 → Prop
  | .nil => True
  | .node _ _ _ l r => l.sz + 1 ≤ 3 * (r.sz + 1) ∧ r.sz + 1 ≤ 3 * (l.sz + 1) ∧ Bal l ∧ Bal r
theorem bal_balT {b : Nat} {x o : Int} {l r : T3} (hl : Bal l) (hr : Bal r) (h1 : l.sz + 1 ≤ 3 * (r.sz + 1) + 3) (h2 : r.sz + 1 ≤ 3 * (l.sz + 1) + 3) : Bal (balT b x o l r) := by
  have zl := l.sz0
  have zr := r.sz0
  unfold balT
  by_cases v1 : 3 * (l.sz + 1) < r.sz + 1
  · rw [if_pos v1]
    cases r with
    | nil => trivial
    | node u y p m rr =>
      dsimp only
      obtain ⟨b1, b2, bm, brr⟩ := hr
      have zm := m.sz0
      have zrr := rr.sz0
      simp only [T3.sz] at v1 h1 h2
      by_cases d : 2 * (rr.sz + 1) ≤ m.sz + 1
      · rw [if_pos d]
        cases m with
        | nil => trivial
        | node v z q ml mr =>
          obtain ⟨m1, m2, bml, bmr⟩ := bm
          have zml := ml.sz0
          have zmr := mr.sz0
          simp only [T3.sz] at *
          refine ⟨?_, ?_, ⟨?_, ?_, hl, bml⟩, ⟨?_, ?_, bmr, brr⟩⟩ <;> (try simp only [T3.sz]) <;> omega
      · rw [if_neg d]
        refine ⟨?_, ?_, ⟨?_, ?_, hl, bm⟩, brr⟩ <;> (try simp only [T3.sz]) <;> omega
  · rw [if_neg v1]
    by_cases v2 : 3 * (r.sz + 1) < l.sz + 1
    · rw [if_pos v2]
      cases l with
      | nil => trivial
      | node u y p ll m =>
        dsimp only
        obtain ⟨b1, b2, bll, bm⟩ := hl
        have zm := m.sz0
        have zll := ll.sz0
        simp only [T3.sz] at v1 v2 h1 h2
        by_cases d : 2 * (ll.sz + 1) ≤ m.sz + 1
        · rw [if_pos d]
          cases m with
          | nil => trivial
          | node v z q ml mr =>
            obtain ⟨m1, m2, bml, bmr⟩ := bm
            have zml := ml.sz0
            have zmr := mr.sz0
            simp only [T3.sz] at *
            refine ⟨?_, ?_, ⟨?_, ?_, bll, bml⟩, ⟨?_, ?_, bmr, hr⟩⟩ <;> (try simp only [T3.sz]) <;> omega
        · rw [if_neg d]
          refine ⟨?_, ?_, bll, ⟨?_, ?_, bm, hr⟩⟩ <;> (try simp only [T3.sz]) <;> omega
    · rw [if_neg v2]
      exact ⟨by omega, by omega, hl, hr⟩
theorem withE_len (nb : Nat) (x : Int) : ∀ l : List (Nat × Int × Int), l.length ≤ (withE nb x l).length ∧ (withE nb x l).length ≤ l.length + 1
  | [] => by simp [withE]
  | e :: es => by
    have := withE_len nb x es
    simp only [withE]
    split
    · simp
    · split <;> simp <;> omega
theorem withT_sz {t : T3} (h : Ord t.ent) (nb : Nat) (x : Int) : t.sz ≤ (withT nb x t).sz ∧ (withT nb x t).sz ≤ t.sz + 1 := by
  rw [T3.sz_ent, T3.sz_ent, withT_ent nb x t h]
  have := withE_len nb x t.ent
  omega
theorem Bal.withT {nb : Nat} {x : Int} : ∀ {t : T3}, Bal t → Ok t → Bal (withT nb x t)
  | .nil, _, _ => ⟨by decide, by decide, trivial, trivial⟩
  | .node b y o l r, h, ok => by
    obtain ⟨okl, okr, po, bl, br, dis⟩ := ok.left
    obtain ⟨b1, b2, hl, hr⟩ := h
    simp only [Tal.withT]
    have al := withT_sz okl.ord nb x
    have ar := withT_sz okr.ord nb x
    by_cases c1 : x < y
    · rw [if_pos c1]
      exact bal_balT (Bal.withT hl okl) hr (by omega) (by omega)
    · rw [if_neg c1]
      by_cases c2 : y < x
      · rw [if_pos c2]
        exact bal_balT hl (Bal.withT hr okr) (by omega) (by omega)
      · rw [if_neg c2]
        exact bal_balT hl hr (by omega) (by omega)
theorem withoutE_length (x : Int) : ∀ l : List (Nat × Int × Int), (withoutE x l).length ≤ l.length ∧ l.length ≤ (withoutE x l).length + 1
  | [] => by simp [withoutE]
  | e :: es => by
    have := withoutE_length x es
    simp only [withoutE]
    split
    · split <;> simp
    · simp; omega
theorem withoutT_sz {t : T3} (h : Ord t.ent) (x : Int) : (withoutT x t).sz ≤ t.sz ∧ t.sz ≤ (withoutT x t).sz + 1 := by
  rw [T3.sz_ent, T3.sz_ent, withoutT_ent x t h]
  have := withoutE_length x t.ent
  omega
theorem cutT_sz {t : T3} (h : t ≠ .nil) : t.sz = (cutT t).1.sz + 1 := by
  rw [T3.sz_ent, T3.sz_ent, cutT_ent t h]
  simp
theorem Bal.cutT : ∀ {t : T3}, Bal t → t ≠ .nil → Bal (cutT t).1
  | .nil, _, h => absurd rfl h
  | .node b x o l r, h, _ => by
    obtain ⟨b1, b2, hl, hr⟩ := h
    by_cases hln : l = .nil
    · subst hln; rw [cutT_nil]; exact hr
    · rw [cutT_node b x o r hln]
      have := cutT_sz hln
      exact bal_balT (Bal.cutT hl hln) hr (by omega) (by omega)
theorem Bal.withoutT {x : Int} : ∀ {t : T3}, Bal t → Ok t → Bal (withoutT x t)
  | .nil, _, _ => trivial
  | .node b y o l r, h, ok => by
    obtain ⟨okl, okr, po, bl, br, dis⟩ := ok.left
    obtain ⟨b1, b2, hl, hr⟩ := h
    simp only [Tal.withoutT]
    have al := withoutT_sz okl.ord x
    have ar := withoutT_sz okr.ord x
    by_cases c1 : x < y
    · rw [if_pos c1]
      exact bal_balT (Bal.withoutT hl okl) hr (by omega) (by omega)
    rw [if_neg c1]
    by_cases c2 : y < x
    · rw [if_pos c2]
      exact bal_balT hl (Bal.withoutT hr okr) (by omega) (by omega)
    rw [if_neg c2]
    split
    · exact bal_balT hl hr (by omega) (by omega)
    · split
      · exact hr
      · split
        · exact hl
        · rename_i c5
          have hrn : r ≠ .nil := fun q => c5 (T3.root_none.2 q)
          have := cutT_sz hrn
          exact bal_balT hl (Bal.cutT hr hrn) (by omega) (by omega)
/-- How many knots stand one above the other. -/
def T3.ht : T3 → Nat
  | .nil => 0
  | .node _ _ _ l r => 1 + max l.ht r.ht
theorem T3.ht0 : ∀ {t : T3}, t.ht = 0 ↔ t = .nil
  | .nil => ⟨fun _ => rfl, fun _ => rfl⟩
  | .node _ _ _ _ _ => ⟨fun h => (by simp only [T3.ht] at h; omega), fun h => (by cases h)⟩
theorem Bal.step {b : Nat} {x o : Int} {l r : T3} (h : Bal (.node b x o l r)) : 4 * (l.sz + 1) ≤ 3 * ((T3.node b x o l r).sz + 1) ∧ 4 * (r.sz + 1) ≤ 3 * ((T3.node b x o l r).sz + 1) ∧ Bal l ∧ Bal r := by
  obtain ⟨b1, b2, hl, hr⟩ := h
  simp only [T3.sz]
  exact ⟨by omega, by omega, hl, hr⟩
theorem Bal.child {t : T3} (h : Bal t) {n : Nat} (hh : n + 1 ≤ t.ht) : ∃ s : T3, Bal s ∧ n ≤ s.ht ∧ 4 * (s.sz + 1) ≤ 3 * (t.sz + 1) := by
  cases t with
  | nil => simp only [T3.ht] at hh; omega
  | node b x o l r =>
    obtain ⟨s1, s2, hl, hr⟩ := h.step
    simp only [T3.ht] at hh
    by_cases c : n ≤ l.ht
    · exact ⟨l, hl, c, s1⟩
    · exact ⟨r, hr, by omega, s2⟩
/-- The document's bound. -/
def tallN : Nat → Nat
  | 0 => 2
  | n + 1 => 3 + tallN ((n + 1) / 2)
theorem Bal.ht_le : ∀ (n : Nat) {t : T3}, Bal t → t.sz ≤ n → t.ht ≤ tallN n
  | 0, t, _, h => by
    have z := t.sz0
    cases t with
    | nil => simp [T3.ht]
    | node b x o l r =>
      have := l.sz0
      have := r.sz0
      simp only [T3.sz] at h
      omega
  | n + 1, t, hb, h => by
    rw [tallN]
    apply Nat.le_of_not_lt
    intro c
    have z := t.sz0
    obtain ⟨s1, hb1, h1, c1⟩ := hb.child (n := t.ht - 1) (by omega)
    obtain ⟨s2, hb2, h2, c2⟩ := hb1.child (n := t.ht - 2) (by omega)
    obtain ⟨s3, hb3, h3, c3⟩ := hb2.child (n := t.ht - 3) (by omega)
    have := Bal.ht_le ((n + 1) / 2) hb3 (by omega)
    omega
theorem T3.ht_sz : ∀ t : T3, (t.ht : Int) ≤ t.sz
  | .nil => Int.le_refl _
  | .node b x o l r => by
    have a := T3.ht_sz l
    have c := T3.ht_sz r
    have zl := l.sz0
    have zr := r.sz0
    simp only [T3.ht, T3.sz]
    omega
theorem height_tree : ∀ (t : T3) (n : Nat) {H : KH}, In H t → t.sz < n → t.sz ≤ 1000000 → heightH n H t.root = some (t.ht : Int)
  | .nil, n, H, _, hn, _ => by
    obtain ⟨n, rfl⟩ : ∃ m, n = m + 1 := ⟨n - 1, by simp only [T3.sz] at hn; omega⟩
    rfl
  | .node b y o l r, n, H, hi, hn, hs => by
    obtain ⟨n, rfl⟩ : ∃ m, n = m + 1 := ⟨n - 1, by have := (T3.node b y o l r).sz0; omega⟩
    have zl := l.sz0
    have zr := r.sz0
    simp only [T3.sz] at hn hs
    obtain ⟨hb, hl, hr⟩ := hi
    have e1 := height_tree l n hl (by omega) (by omega)
    have e2 := height_tree r n hr (by omega) (by omega)
    have a := T3.ht_sz l
    have c := T3.ht_sz r
    simp only [heightH, T3.root]
    rw [hb]
    simp only [Option.bind_some]
    rw [show (T3.node b y o l r).kn.l = l.root from rfl, show (T3.node b y o l r).kn.r = r.root from rfl, e1, e2]
    simp only [Option.bind_some]
    have m : mx (l.ht : Int) (r.ht : Int) = ((max l.ht r.ht : Nat) : Int) := by unfold mx; split <;> omega
    rw [m, w64 (by omega) (by omega)]
    simp only [T3.ht]
    congr 1
end Go.Proofs.Ytlglopainaploaa.Tal
