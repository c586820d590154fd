/- Of no tally there is nothing: foolscaplaw20.TallyNil walked. -/
import Derived.Test.YtlglopainaploaaTalPd
import Derived.Test.YtlglopainaploaaTalNil
namespace Go.Proofs.Ytlglopainaploaa.Tal
open Go.RowKit Go.Proofs.YtlglopainaploaaW.PrintWords Go.Proofs.YtlglopainaploaaW.PrintLast Go.Proofs.YtlglopainaploaaW.PrintMore
open Go.Proofs.Ytlglopainaploaa.PV Go.Proofs.Ytlglopainaploaa.Pure
set_option linter.unusedVariables false
set_option linter.unusedSimpArgs false

theorem block_lt {w : World} {b : Nat} {o : Obj} (h : w.heap[b]? = some o) : b < w.heap.size := (Array.getElem?_eq_some_iff.1 h).1
set_option maxHeartbeats 3200000 in
set_option maxRecDepth 100000 in
theorem nil_walk0 (kd n : Int) (s : ByteArray) (b : Bool) (c k : Int) (w : World) : Calls Try.prog 3 #[.agg #[.int .i64 kd, .int .i64 n, .string s, .bool b, .int .i64 c], .int .i64 k, .bool false] w fun e w' => e = .returned (.bool true) ∧ Below w.heap.size w w' := by
  have hu25 := Try.underlying25
  have B0 := Aside0.mk (below_alloc (Below.refl w.heap.size w) (.cells #[.int .i64 kd, .int .i64 n, .string s, .bool b, .int .i64 c] 25))
  have U0 : Aside0 (Un (w.alloc (.cells #[.int .i64 kd, .int .i64 n, .string s, .bool b, .int .i64 c] 25)) none) := ⟨.inl rfl⟩
  have V0 := Aside0.mk (blk_alloc_new w (.cells #[.int .i64 kd, .int .i64 n, .string s, .bool b, .int .i64 c] 25))
  go_enter Try.func3, Try.ntmps3
  go_wp2_with fail
  refine (sum_un U0.out).mono ?_
  rintro e w1 ⟨rfl, hb⟩
  have U1 := Aside0.mk (U0.out.below hb)
  have B1 := Aside0.mk (below_step2 B0.out hb)
  have V1 := Aside0.mk ((hb.block w.heap.size (block_lt V0.out)).trans V0.out)
  clear hb U0 B0 V0
  go_wp2_with fail
  refine (mean_un U1.out).mono ?_
  rintro e w2 ⟨rfl, hb⟩
  have U2 := Aside0.mk (U1.out.below hb)
  have B2 := Aside0.mk (below_step2 B1.out hb)
  have V2 := Aside0.mk ((hb.block w.heap.size (block_lt V1.out)).trans V1.out)
  clear hb U1 B1 V1
  go_wp2_with fail
  refine (small_un U2.out).mono ?_
  rintro e w3 ⟨rfl, hb⟩
  have U3 := Aside0.mk (U2.out.below hb)
  have B3 := Aside0.mk (below_step2 B2.out hb)
  have V3 := Aside0.mk ((hb.block w.heap.size (block_lt V2.out)).trans V2.out)
  clear hb U2 B2 V2
  go_wp2_with fail
  refine (median_un U3.out).mono ?_
  rintro e w4 ⟨rfl, hb⟩
  have U4 := Aside0.mk (U3.out.below hb)
  have B4 := Aside0.mk (below_step2 B3.out hb)
  have V4 := Aside0.mk ((hb.block w.heap.size (block_lt V3.out)).trans V3.out)
  clear hb U3 B3 V3
  go_wp2_with fail
  refine (least_un U4.out).mono ?_
  rintro e w5 ⟨rfl, hb⟩
  have U5 := Aside0.mk (U4.out.below hb)
  have B5 := Aside0.mk (below_step2 B4.out hb)
  have V5 := Aside0.mk ((hb.block w.heap.size (block_lt V4.out)).trans V4.out)
  clear hb U4 B4 V4
  have v0 := (cell_of_blk V5.out (i := 0)).trans rfl
  have v1 := (cell_of_blk V5.out (i := 1)).trans rfl
  have v2 := (cell_of_blk V5.out (i := 2)).trans rfl
  have v3 := (cell_of_blk V5.out (i := 3)).trans rfl
  have v4 := (cell_of_blk V5.out (i := 4)).trans rfl
  go_wp2_with fail
  refine (add_un U5.out).mono ?_
  rintro e w6 ⟨rfl, hb⟩
  have U6 := Aside0.mk (U5.out.below hb)
  have B6 := Aside0.mk (below_step2 B5.out hb)
  have V6 := Aside0.mk ((hb.block w.heap.size (block_lt V5.out)).trans V5.out)
  clear hb U5 B5 V5 v0 v1 v2 v3 v4
  have v0 := (cell_of_blk V6.out (i := 0)).trans rfl
  have v1 := (cell_of_blk V6.out (i := 1)).trans rfl
  have v2 := (cell_of_blk V6.out (i := 2)).trans rfl
  have v3 := (cell_of_blk V6.out (i := 3)).trans rfl
  have v4 := (cell_of_blk V6.out (i := 4)).trans rfl
  go_wp2_with fail
  refine (drop_un U6.out).mono ?_
  rintro e w7 ⟨rfl, hb⟩
  have U7 := Aside0.mk (U6.out.below hb)
  have B7 := Aside0.mk (below_step2 B6.out hb)
  have V7 := Aside0.mk ((hb.block w.heap.size (block_lt V6.out)).trans V6.out)
  clear hb U6 B6 V6 v0 v1 v2 v3 v4
  have v0 := (cell_of_blk V7.out (i := 0)).trans rfl
  have v1 := (cell_of_blk V7.out (i := 1)).trans rfl
  have v2 := (cell_of_blk V7.out (i := 2)).trans rfl
  have v3 := (cell_of_blk V7.out (i := 3)).trans rfl
  have v4 := (cell_of_blk V7.out (i := 4)).trans rfl
  go_wp2_with fail
  refine (count_un U7.out).mono ?_
  rintro e w8 ⟨rfl, hb⟩
  have U8 := Aside0.mk (U7.out.below hb)
  have B8 := Aside0.mk (below_step2 B7.out hb)
  have V8 := Aside0.mk ((hb.block w.heap.size (block_lt V7.out)).trans V7.out)
  clear hb U7 B7 V7 v0 v1 v2 v3 v4
  have v0 := (cell_of_blk V8.out (i := 0)).trans rfl
  have v1 := (cell_of_blk V8.out (i := 1)).trans rfl
  have v2 := (cell_of_blk V8.out (i := 2)).trans rfl
  have v3 := (cell_of_blk V8.out (i := 3)).trans rfl
  have v4 := (cell_of_blk V8.out (i := 4)).trans rfl
  go_wp2_with fail
  refine (all_un U8.out).mono ?_
  rintro e w9 ⟨rfl, hb⟩
  have U9 := Aside0.mk (U8.out.below hb)
  have B9 := Aside0.mk (below_step2 B8.out hb)
  have V9 := Aside0.mk ((hb.block w.heap.size (block_lt V8.out)).trans V8.out)
  clear hb U8 B8 V8 v0 v1 v2 v3 v4
  have v0 := (cell_of_blk V9.out (i := 0)).trans rfl
  have v1 := (cell_of_blk V9.out (i := 1)).trans rfl
  have v2 := (cell_of_blk V9.out (i := 2)).trans rfl
  have v3 := (cell_of_blk V9.out (i := 3)).trans rfl
  have v4 := (cell_of_blk V9.out (i := 4)).trans rfl
  go_wp2_with fail
  refine (fault_un U9.out).mono ?_
  rintro e w10 ⟨rfl, hb⟩
  have U10 := Aside0.mk (U9.out.below hb)
  have B10 := Aside0.mk (below_step2 B9.out hb)
  have V10 := Aside0.mk ((hb.block w.heap.size (block_lt V9.out)).trans V9.out)
  clear hb U9 B9 V9 v0 v1 v2 v3 v4
  have v0 := (cell_of_blk V10.out (i := 0)).trans rfl
  have v1 := (cell_of_blk V10.out (i := 1)).trans rfl
  have v2 := (cell_of_blk V10.out (i := 2)).trans rfl
  have v3 := (cell_of_blk V10.out (i := 3)).trans rfl
  have v4 := (cell_of_blk V10.out (i := 4)).trans rfl
  go_wp2_with fail
  refine (below_un U10.out).mono ?_
  rintro e w11 ⟨rfl, hb⟩
  have U11 := Aside0.mk (U10.out.below hb)
  have B11 := Aside0.mk (below_step2 B10.out hb)
  have V11 := Aside0.mk ((hb.block w.heap.size (block_lt V10.out)).trans V10.out)
  clear hb U10 B10 V10 v0 v1 v2 v3 v4
  have v0 := (cell_of_blk V11.out (i := 0)).trans rfl
  have v1 := (cell_of_blk V11.out (i := 1)).trans rfl
  have v2 := (cell_of_blk V11.out (i := 2)).trans rfl
  have v3 := (cell_of_blk V11.out (i := 3)).trans rfl
  have v4 := (cell_of_blk V11.out (i := 4)).trans rfl
  go_wp2_with fail
  refine (often_un U11.out).mono ?_
  rintro e w12 ⟨rfl, hb⟩
  have U12 := Aside0.mk (U11.out.below hb)
  have B12 := Aside0.mk (below_step2 B11.out hb)
  have V12 := Aside0.mk ((hb.block w.heap.size (block_lt V11.out)).trans V11.out)
  clear hb U11 B11 V11 v0 v1 v2 v3 v4
  have v0 := (cell_of_blk V12.out (i := 0)).trans rfl
  have v1 := (cell_of_blk V12.out (i := 1)).trans rfl
  have v2 := (cell_of_blk V12.out (i := 2)).trans rfl
  have v3 := (cell_of_blk V12.out (i := 3)).trans rfl
  have v4 := (cell_of_blk V12.out (i := 4)).trans rfl
  go_wp2_with fail
  refine (height_un U12.out).mono ?_
  rintro e w13 ⟨rfl, hb⟩
  have U13 := Aside0.mk (U12.out.below hb)
  have B13 := Aside0.mk (below_step2 B12.out hb)
  have V13 := Aside0.mk ((hb.block w.heap.size (block_lt V12.out)).trans V12.out)
  clear hb U12 B12 V12 v0 v1 v2 v3 v4
  go_wp2_with fail
  with_reducible refine (lives_calls _).mono ?_
  rintro e w20 ⟨rfl, hb⟩
  have B20 := Aside0.mk (below_step2 B13.out hb)
  clear hb
  go_wp2
  go_ret
  exact ⟨rfl, B20.out⟩
set_option maxHeartbeats 3200000 in
set_option maxRecDepth 100000 in
theorem nil_walk1 (kd n : Int) (s : ByteArray) (b : Bool) (c k : Int) (w : World) : Calls Try.prog 3 #[.agg #[.int .i64 kd, .int .i64 n, .string s, .bool b, .int .i64 c], .int .i64 k, .bool true] w fun e w' => e = .returned (.bool true) ∧ Below w.heap.size w w' := by
  have hu25 := Try.underlying25
  have B0 := Aside0.mk (below_alloc (below_alloc (Below.refl w.heap.size w) (.cells #[.int .i64 kd, .int .i64 n, .string s, .bool b, .int .i64 c] 25)) (.cells #[.pointer none, .int .i64 0, .int .i64 0, .map none, .int .i64 0, .int .i64 0, .int .i64 0, .int .i64 0, .int .i64 0, .int .i64 0, .int .i64 0, .int .i64 0, .int .i64 0, .int .i64 0, .int .i64 0, .int .i64 0, .int .i64 0, .int .i64 0, .int .i64 0, .int .i64 0] 35))
  have U0 : Aside0 (Un ((w.alloc (.cells #[.int .i64 kd, .int .i64 n, .string s, .bool b, .int .i64 c] 25)).alloc (.cells #[.pointer none, .int .i64 0, .int .i64 0, .map none, .int .i64 0, .int .i64 0, .int .i64 0, .int .i64 0, .int .i64 0, .int .i64 0, .int .i64 0, .int .i64 0, .int .i64 0, .int .i64 0, .int .i64 0, .int .i64 0, .int .i64 0, .int .i64 0, .int .i64 0, .int .i64 0] 35)) (some ⟨w.heap.size + 1, 0, none⟩)) := ⟨.inr ⟨w.heap.size + 1, rfl, by simp⟩⟩
  have V0 := Aside0.mk ((Below.heap_alloc (w.alloc (.cells #[.int .i64 kd, .int .i64 n, .string s, .bool b, .int .i64 c] 25)) (.cells #[.pointer none, .int .i64 0, .int .i64 0, .map none, .int .i64 0, .int .i64 0, .int .i64 0, .int .i64 0, .int .i64 0, .int .i64 0, .int .i64 0, .int .i64 0, .int .i64 0, .int .i64 0, .int .i64 0, .int .i64 0, .int .i64 0, .int .i64 0, .int .i64 0, .int .i64 0] 35) _ (by simp)).trans (blk_alloc_new w (.cells #[.int .i64 kd, .int .i64 n, .string s, .bool b, .int .i64 c] 25)))
  go_enter Try.func3, Try.ntmps3
  go_wp2_with fail
  refine (sum_un U0.out).mono ?_
  rintro e w1 ⟨rfl, hb⟩
  have U1 := Aside0.mk (U0.out.below hb)
  have B1 := Aside0.mk (below_step2 B0.out hb)
  have V1 := Aside0.mk ((hb.block w.heap.size (block_lt V0.out)).trans V0.out)
  clear hb U0 B0 V0
  go_wp2_with fail
  refine (mean_un U1.out).mono ?_
  rintro e w2 ⟨rfl, hb⟩
  have U2 := Aside0.mk (U1.out.below hb)
  have B2 := Aside0.mk (below_step2 B1.out hb)
  have V2 := Aside0.mk ((hb.block w.heap.size (block_lt V1.out)).trans V1.out)
  clear hb U1 B1 V1
  go_wp2_with fail
  refine (small_un U2.out).mono ?_
  rintro e w3 ⟨rfl, hb⟩
  have U3 := Aside0.mk (U2.out.below hb)
  have B3 := Aside0.mk (below_step2 B2.out hb)
  have V3 := Aside0.mk ((hb.block w.heap.size (block_lt V2.out)).trans V2.out)
  clear hb U2 B2 V2
  go_wp2_with fail
  refine (median_un U3.out).mono ?_
  rintro e w4 ⟨rfl, hb⟩
  have U4 := Aside0.mk (U3.out.below hb)
  have B4 := Aside0.mk (below_step2 B3.out hb)
  have V4 := Aside0.mk ((hb.block w.heap.size (block_lt V3.out)).trans V3.out)
  clear hb U3 B3 V3
  go_wp2_with fail
  refine (least_un U4.out).mono ?_
  rintro e w5 ⟨rfl, hb⟩
  have U5 := Aside0.mk (U4.out.below hb)
  have B5 := Aside0.mk (below_step2 B4.out hb)
  have V5 := Aside0.mk ((hb.block w.heap.size (block_lt V4.out)).trans V4.out)
  clear hb U4 B4 V4
  have v0 := (cell_of_blk V5.out (i := 0)).trans rfl
  have v1 := (cell_of_blk V5.out (i := 1)).trans rfl
  have v2 := (cell_of_blk V5.out (i := 2)).trans rfl
  have v3 := (cell_of_blk V5.out (i := 3)).trans rfl
  have v4 := (cell_of_blk V5.out (i := 4)).trans rfl
  go_wp2_with fail
  refine (add_un U5.out).mono ?_
  rintro e w6 ⟨rfl, hb⟩
  have U6 := Aside0.mk (U5.out.below hb)
  have B6 := Aside0.mk (below_step2 B5.out hb)
  have V6 := Aside0.mk ((hb.block w.heap.size (block_lt V5.out)).trans V5.out)
  clear hb U5 B5 V5 v0 v1 v2 v3 v4
  have v0 := (cell_of_blk V6.out (i := 0)).trans rfl
  have v1 := (cell_of_blk V6.out (i := 1)).trans rfl
  have v2 := (cell_of_blk V6.out (i := 2)).trans rfl
  have v3 := (cell_of_blk V6.out (i := 3)).trans rfl
  have v4 := (cell_of_blk V6.out (i := 4)).trans rfl
  go_wp2_with fail
  refine (drop_un U6.out).mono ?_
  rintro e w7 ⟨rfl, hb⟩
  have U7 := Aside0.mk (U6.out.below hb)
  have B7 := Aside0.mk (below_step2 B6.out hb)
  have V7 := Aside0.mk ((hb.block w.heap.size (block_lt V6.out)).trans V6.out)
  clear hb U6 B6 V6 v0 v1 v2 v3 v4
  have v0 := (cell_of_blk V7.out (i := 0)).trans rfl
  have v1 := (cell_of_blk V7.out (i := 1)).trans rfl
  have v2 := (cell_of_blk V7.out (i := 2)).trans rfl
  have v3 := (cell_of_blk V7.out (i := 3)).trans rfl
  have v4 := (cell_of_blk V7.out (i := 4)).trans rfl
  go_wp2_with fail
  refine (count_un U7.out).mono ?_
  rintro e w8 ⟨rfl, hb⟩
  have U8 := Aside0.mk (U7.out.below hb)
  have B8 := Aside0.mk (below_step2 B7.out hb)
  have V8 := Aside0.mk ((hb.block w.heap.size (block_lt V7.out)).trans V7.out)
  clear hb U7 B7 V7 v0 v1 v2 v3 v4
  have v0 := (cell_of_blk V8.out (i := 0)).trans rfl
  have v1 := (cell_of_blk V8.out (i := 1)).trans rfl
  have v2 := (cell_of_blk V8.out (i := 2)).trans rfl
  have v3 := (cell_of_blk V8.out (i := 3)).trans rfl
  have v4 := (cell_of_blk V8.out (i := 4)).trans rfl
  go_wp2_with fail
  refine (all_un U8.out).mono ?_
  rintro e w9 ⟨rfl, hb⟩
  have U9 := Aside0.mk (U8.out.below hb)
  have B9 := Aside0.mk (below_step2 B8.out hb)
  have V9 := Aside0.mk ((hb.block w.heap.size (block_lt V8.out)).trans V8.out)
  clear hb U8 B8 V8 v0 v1 v2 v3 v4
  have v0 := (cell_of_blk V9.out (i := 0)).trans rfl
  have v1 := (cell_of_blk V9.out (i := 1)).trans rfl
  have v2 := (cell_of_blk V9.out (i := 2)).trans rfl
  have v3 := (cell_of_blk V9.out (i := 3)).trans rfl
  have v4 := (cell_of_blk V9.out (i := 4)).trans rfl
  go_wp2_with fail
  refine (fault_un U9.out).mono ?_
  rintro e w10 ⟨rfl, hb⟩
  have U10 := Aside0.mk (U9.out.below hb)
  have B10 := Aside0.mk (below_step2 B9.out hb)
  have V10 := Aside0.mk ((hb.block w.heap.size (block_lt V9.out)).trans V9.out)
  clear hb U9 B9 V9 v0 v1 v2 v3 v4
  have v0 := (cell_of_blk V10.out (i := 0)).trans rfl
  have v1 := (cell_of_blk V10.out (i := 1)).trans rfl
  have v2 := (cell_of_blk V10.out (i := 2)).trans rfl
  have v3 := (cell_of_blk V10.out (i := 3)).trans rfl
  have v4 := (cell_of_blk V10.out (i := 4)).trans rfl
  go_wp2_with fail
  refine (below_un U10.out).mono ?_
  rintro e w11 ⟨rfl, hb⟩
  have U11 := Aside0.mk (U10.out.below hb)
  have B11 := Aside0.mk (below_step2 B10.out hb)
  have V11 := Aside0.mk ((hb.block w.heap.size (block_lt V10.out)).trans V10.out)
  clear hb U10 B10 V10 v0 v1 v2 v3 v4
  have v0 := (cell_of_blk V11.out (i := 0)).trans rfl
  have v1 := (cell_of_blk V11.out (i := 1)).trans rfl
  have v2 := (cell_of_blk V11.out (i := 2)).trans rfl
  have v3 := (cell_of_blk V11.out (i := 3)).trans rfl
  have v4 := (cell_of_blk V11.out (i := 4)).trans rfl
  go_wp2_with fail
  refine (often_un U11.out).mono ?_
  rintro e w12 ⟨rfl, hb⟩
  have U12 := Aside0.mk (U11.out.below hb)
  have B12 := Aside0.mk (below_step2 B11.out hb)
  have V12 := Aside0.mk ((hb.block w.heap.size (block_lt V11.out)).trans V11.out)
  clear hb U11 B11 V11 v0 v1 v2 v3 v4
  have v0 := (cell_of_blk V12.out (i := 0)).trans rfl
  have v1 := (cell_of_blk V12.out (i := 1)).trans rfl
  have v2 := (cell_of_blk V12.out (i := 2)).trans rfl
  have v3 := (cell_of_blk V12.out (i := 3)).trans rfl
  have v4 := (cell_of_blk V12.out (i := 4)).trans rfl
  go_wp2_with fail
  refine (height_un U12.out).mono ?_
  rintro e w13 ⟨rfl, hb⟩
  have U13 := Aside0.mk (U12.out.below hb)
  have B13 := Aside0.mk (below_step2 B12.out hb)
  have V13 := Aside0.mk ((hb.block w.heap.size (block_lt V12.out)).trans V12.out)
  clear hb U12 B12 V12 v0 v1 v2 v3 v4
  go_wp2_with fail
  with_reducible refine (lives_calls _).mono ?_
  rintro e w20 ⟨rfl, hb⟩
  have B20 := Aside0.mk (below_step2 B13.out hb)
  clear hb
  go_wp2
  go_ret
  exact ⟨rfl, B20.out⟩
theorem nil_walk (kd n : Int) (s : ByteArray) (b : Bool) (c k : Int) (made : Bool) (w : World) : Calls Try.prog 3 #[.agg #[.int .i64 kd, .int .i64 n, .string s, .bool b, .int .i64 c], .int .i64 k, .bool made] w fun e w' => e = .returned (.bool true) ∧ Below w.heap.size w w' := by
  cases made
  · exact nil_walk0 kd n s b c k w
  · exact nil_walk1 kd n s b c k w
end Go.Proofs.Ytlglopainaploaa.Tal
