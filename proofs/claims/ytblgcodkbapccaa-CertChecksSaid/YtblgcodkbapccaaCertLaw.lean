/- PROVED: the law CertChecks answers true. Conditions: the slice within its reach; 24 slots each; heights are numbers of 64 bits. -/
import Derived.Test.YtblgcodkbapccaaCertRef
namespace Go.Proofs.Ytblgcodkbapccaa.CertWalk
open Go.RowKit Go.Proofs.Ytblgcodkbapccaa.PCertChecks Go.Proofs.YtblgcodkbapccaaW.PrintWords Go.Proofs.YtblgcodkbapccaaW.PrintLast Go.Proofs.YtblgcodkbapccaaW.PrintMore
attribute [local go_sem] max2_int min2_int max_two min_two max_three min_three max_four min_four
set_option linter.unusedVariables false
set_option linter.unusedSimpArgs false

set_option maxHeartbeats 8000000 in
set_option maxRecDepth 100000 in
theorem law_calls (L : Int) (A0 : Option Addr) (c0 : Nat) (l0 : List Ent) (w : World) (hr0 : Kd.C kE w A0 l0.length l0) (hl : l0.length * 56 ≤ 140737488355328) (hw : ∀ x ∈ l0, -9223372036854775808 ≤ x.hgt ∧ x.hgt ≤ 9223372036854775807) :
    Calls Try.prog 8 #[.agg #[.int .i64 L, .slice A0 l0.length c0]] w fun e w' => e = .returned (.bool true) ∧ Below w.heap.size w w' := by
  have HB := Aside0.mk (Below.refl w.heap.size w)
  have HC := Aside0.mk hr0
  have HL := Aside0.mk hl
  have HW := Aside0.mk hw
  clear hr0 hl hw
  go_enter Try.func8, Try.ntmps8
  go_upto_region 1 with (first | ((with_reducible refine gate_dst (N := 1) rfl ?_); refine box_event ?hg (N := 1) ?hd (cs := #[.int .i64 L, .slice A0 l0.length c0]) (t := 51) ?hr ?_; (case hd => rfl); (case hg => rfl); (case hr => first | (go_simp; done) | (go_simp; rfl)); intro gb hg w1 hbox hb; have BK := Aside0.mk hbox; have HB1 := Aside0.mk (below_step HB.out hb); clear hb hbox hg))
  go_wp2_with (first | ((with_reducible refine gate_dst (N := 8) rfl ?_); refine wpList_load_row rfl 51 (.tmp 1) rfl gb rfl 51 #[.int .i64 L, .slice A0 l0.length c0] (0, 0) _ BK.out Try.underlying51 rfl size51 ?_))
  refine (copied_calls L A0 c0 l0 _ (Kd.C_below HC.out HB1.out) HL.out).mono ?_
  rintro e2 w2 ⟨A2, c2, rfl, hr2, hb⟩
  have BK2 := Aside0.mk (blk_below BK.out hb)
  have HB2 := Aside0.mk (below_step HB1.out hb)
  have S2 := Aside0.mk hr2
  clear hb hr2
  go_upto_region 2 with (first | ((with_reducible refine gate_dst (N := 3) rfl ?_); refine box_event ?hg (N := 3) ?hd (cs := #[.int .i64 0, .slice none 0 0]) (t := 51) ?hr ?_; (case hd => rfl); (case hg => rfl); (case hr => first | (go_simp; done) | (go_simp; rfl)); intro gc hgc w3 hboxc hb; have BC := Aside0.mk hboxc; have BK3 := Aside0.mk (blk_below BK2.out hb); have HGC := Aside0.mk (show w.heap.size ≤ gc by rw [hgc]; exact below_size HB2.out); have HNE := Aside0.mk (show gb ≠ gc by rw [hgc]; exact Nat.ne_of_lt (blk_lt BK2.out)); have HB3 := Aside0.mk (below_step HB2.out hb); have HGC2 := Aside0.mk (show w2.heap.size ≤ gc by rw [hgc]; exact Nat.le_refl _); have HB23 := Aside0.mk hb; clear hb hboxc hgc) | (refine store_event (w0 := w2) (base := w2.heap.size) rfl (ty := 51) (p := .tmp 3) (v := .tmp 9) rfl rfl rfl BC.out size51 rfl (by intro u hu; simp at hu; rcases hu with rfl | rfl <;> rfl) HB23.out HGC2.out ?_; intro w4 hbc hb4 hoth hsz; have BC4 := Aside0.mk hbc; have BK4 := Aside0.mk ((hoth gb HNE.out).trans BK3.out); have HB24 := Aside0.mk hb4; clear hbc hb4 hoth hsz))
  (try simp only [Act.put, List.setIfInBounds_toArray, List.set_cons_zero, List.set_cons_succ])
  have HB4 := Aside0.mk (below_step HB2.out HB24.out)
  go_wp2_with (first | ((with_reducible refine gate_dst (N := 11) rfl ?_); refine wpList_load_row rfl 51 (.tmp 3) rfl gc rfl 51 #[.int .i64 L, .slice A2 l0.length c2] (0, 0) _ BC4.out Try.underlying51 rfl size51 ?_))
  refine (check_calls L A2 c2 l0 _ (Kd.C_below S2.out HB24.out) HL.out HW.out).mono ?_
  rintro e5 w5 ⟨rfl, hb⟩
  have BK5 := Aside0.mk (blk_below BK4.out hb)
  have BC5 := Aside0.mk (blk_below BC4.out hb)
  have HB25 := Aside0.mk (below_step HB24.out hb)
  have HB5 := Aside0.mk (below_step HB4.out hb)
  clear hb
  obtain ⟨rn, hrn⟩ : ∃ r, (check L l0).1 = r := ⟨_, rfl⟩
  obtain ⟨re, hre⟩ : ∃ r, (check L l0).2 = r := ⟨_, rfl⟩
  have HRN := Aside0.mk hrn
  have HRE := Aside0.mk hre
  rw [hrn, hre]
  clear hrn hre
  go_wp2_with (first | ((with_reducible refine gate_dst (N := 16) rfl ?_); refine wpList_load_row rfl 51 (.tmp 1) rfl gb rfl 51 #[.int .i64 L, .slice A0 l0.length c0] (0, 0) _ BK5.out Try.underlying51 rfl size51 ?_))
  refine (refCheck_calls L A0 c0 l0 _ (Kd.C_below HC.out HB5.out) HL.out HW.out).mono ?_
  rintro e6 w6 ⟨rfl, hb⟩
  have BK6 := Aside0.mk (blk_below BK5.out hb)
  have BC6 := Aside0.mk (blk_below BC5.out hb)
  have HB26 := Aside0.mk (below_step HB25.out hb)
  have HB6 := Aside0.mk (below_step HB5.out hb)
  clear hb
  rw [HRN.out, HRE.out]
  go_wp2_with (first | ((with_reducible refine gate_dst (N := 29) rfl ?_); (try (refine gate_guard (by rfl) ?_; dsimp only)); refine wpList_load_row rfl 51 (.tmp 3) rfl gc rfl 51 #[.int .i64 L, .slice A2 l0.length c2] (0, 0) _ BC6.out Try.underlying51 rfl size51 ?_) | ((with_reducible refine gate_dst (N := 30) rfl ?_); (try (refine gate_guard (by rfl) ?_; dsimp only)); refine wpList_load_row rfl 51 (.tmp 1) rfl gb rfl 51 #[.int .i64 L, .slice A0 l0.length c0] (0, 0) _ BK6.out Try.underlying51 rfl size51 ?_))
  refine (same_calls L A2 c2 A0 c0 l0 _ (Kd.C_below S2.out HB26.out) (Kd.C_below HC.out HB6.out)).mono ?_
  rintro e7 w7 ⟨rfl, hb⟩
  have HB7 := Aside0.mk (below_step HB6.out hb)
  clear hb
  go_wp2
  go_ret
  exact ⟨rfl, HB7.out⟩
end Go.Proofs.Ytblgcodkbapccaa.CertWalk
