/- PROVED: what copied, cert.Check, provisoref06.Check and Same do with a certificate. Conditions: each slice within its reach; 24 slots each. -/
import Derived.Test.YtblgcodkbapccaaCertBody
namespace Go.Proofs.Ytblgcodkbapccaa.CertWalk
open Go.RowKit Go.Proofs.Ytblgcodkbapccaa.PCertChecks Go.Proofs.YtblgcodkbapccaaW.PrintWords Go.Proofs.YtblgcodkbapccaaW.PrintLast Go.Proofs.YtblgcodkbapccaaW.PrintMore
attribute [local go_sem] max2_int min2_int max_two min_two max_three min_three max_four min_four
set_option linter.unusedVariables false
set_option linter.unusedSimpArgs false
attribute [local go_sem high] eqFrame eqEnt

theorem size51 : (Try.prog.info? 51).map (·.size) = some 2 := by kernel_rfl
theorem C_move {w w1 : World} {A : Option Addr} {n : Nat} {l : List Ent} (h : Kd.C kE w A n l) (hm : ∀ ad, A = some ad → w1.heap[ad.block]? = w.heap[ad.block]?) : Kd.C kE w1 A n l := by
  refine ⟨h.1, h.2.1, fun h0 => ?_⟩
  obtain ⟨ad, e, hc⟩ := h.2.2 h0
  refine ⟨ad, e, fun j p hj => ?_⟩
  obtain ⟨c, hl, hR, hcell⟩ := hc j p hj
  refine ⟨c, hl, hR, fun i u hu => ?_⟩
  have hb : (ad.add (j * kE.sz + i)).block = ad.block := by unfold Addr.add; split <;> rfl
  exact (World.cell?_of_block (w := w) (by rw [hb]; exact hm ad e)).trans (hcell i u hu)
set_option maxHeartbeats 8000000 in
set_option maxRecDepth 100000 in
theorem copied_calls (L : Int) (A0 : Option Addr) (c0 : Nat) (l0 : List Ent) (w : World) (hr0 : Kd.C kE w A0 l0.length l0) (hl : l0.length * 56 ≤ 140737488355328) :
    Calls Try.prog 35 #[.agg #[.int .i64 L, .slice A0 l0.length c0]] w fun e w' => ∃ (A : Option Addr) (c : Nat), e = .returned (.agg #[.int .i64 L, .slice A l0.length c]) ∧ Kd.C kE w' A l0.length l0 ∧ Below w.heap.size w w' := by
  have HB := Aside0.mk (Below.refl w.heap.size w)
  have HC := Aside0.mk hr0
  have HL := Aside0.mk hl
  clear hr0 hl
  go_enter Try.func35, Try.ntmps35
  go_wp2_with (first | ((with_reducible refine gate_dst (N := 1) rfl ?_); refine box_event ?hg (N := 1) ?hd (cs := #[.int .i64 L, .slice A0 l0.length c0]) (t := 51) ?hr ?_; (case hd => rfl); (case hg => rfl); (case hr => first | (go_simp; done) | (go_simp; rfl)); intro gb hg w1 hbox hb; have BK := Aside0.mk hbox; have HB1 := Aside0.mk (below_step HB.out hb); have HG := Aside0.mk (show w.heap.size ≤ gb by rw [hg]; exact Nat.le_refl _); clear hb hbox hg) | ((with_reducible refine gate_dst (N := 2) rfl ?_); refine box_event ?hg (N := 2) ?hd (cs := #[.int .i64 0, .slice none 0 0]) (t := 51) ?hr ?_; (case hd => rfl); (case hg => rfl); (case hr => first | (go_simp; done) | (go_simp; rfl)); intro gc hgc w2 hboxc hb; have BC := Aside0.mk hboxc; have BK2 := Aside0.mk (blk_below BK.out hb); have HGC := Aside0.mk (show w.heap.size ≤ gc by rw [hgc]; exact below_size HB1.out); have HNE := Aside0.mk (show gb ≠ gc by rw [hgc]; exact Nat.ne_of_lt (blk_lt BK.out)); have HB2 := Aside0.mk (below_step HB1.out hb); have hcb : w2.cell? ⟨gb, 1, none⟩ = some (.slice A0 l0.length c0) := (blk_cell BK2.out 1).trans rfl; clear hb hboxc hgc))
  refine (clone_calls A0 c0 l0 w2 (Kd.C_below HC.out HB2.out) HL.out).mono ?_
  rintro e3 w3 ⟨v3, rfl, ho, hb⟩
  obtain ⟨A3, c3, rfl⟩ := Kd.R_slice ho
  have BK3 := Aside0.mk (blk_below BK2.out hb)
  have BC3 := Aside0.mk (blk_below BC.out hb)
  have HB3 := Aside0.mk (below_step HB2.out hb)
  have S3 := Aside0.mk (Kd.R_reads' ho)
  have SB := Aside0.mk (Kd.R_base ho)
  clear ho hb hcb
  have hcc := blk_cell BK3.out 1
  have hfz := blk_frozen BK3.out 1
  simp only [List.getElem?_toArray, List.getElem?_cons_zero, List.getElem?_cons_succ] at hcc
  go_upto_region 2 with (fail)
  obtain ⟨W4, hW4⟩ : ∃ W4, w3.setCell ⟨gb, 1, none⟩ (.slice A3 l0.length c3) = W4 := ⟨_, rfl⟩
  rw [hW4]
  have BK4 := Aside0.mk (show W4.heap[gb]? = some (.cells #[.int .i64 L, .slice A3 l0.length c3] 51 (0, 0)) by rw [← hW4]; exact blk_put BK3.out 1 _ rfl)
  have BC4 := Aside0.mk (show W4.heap[gc]? = some (.cells #[.int .i64 0, .slice none 0 0] 51 (0, 0)) by rw [← hW4, heap_setCell_other w3 _ gc _ (fun e => HNE.out e.symm)]; exact BC3.out)
  have HB4 := Aside0.mk (show Below w.heap.size w W4 by rw [← hW4]; exact below_set HB3.out HG.out)
  have hAg : ∀ ad, A3 = some ad → ad.block ≠ gb ∧ ad.block ≠ gc := fun ad e => by
    subst e
    have := SB.out ad.block rfl
    have h1 := blk_lt BK2.out
    have h2 := blk_lt BC.out
    omega
  have S4 := Aside0.mk (show Kd.C kE W4 A3 l0.length l0 by rw [← hW4]; exact C_move S3.out.2.2 (fun ad e => heap_setCell_other w3 _ _ _ (hAg ad e).1))
  have HAG := Aside0.mk hAg
  clear hW4 hAg hcc hfz
  go_wp2_with (first | ((with_reducible refine gate_dst (N := 7) rfl ?_); refine wpList_load_row rfl 51 (.tmp 1) rfl gb rfl 51 #[.int .i64 L, .slice A3 l0.length c3] (0, 0) _ BK4.out Try.underlying51 rfl size51 ?_) | (refine store_event (w0 := w) (base := w.heap.size) rfl (ty := 51) (p := .tmp 2) (v := .tmp 7) rfl rfl rfl BC4.out size51 rfl (by intro u hu; simp at hu; rcases hu with rfl | rfl <;> rfl) HB4.out HGC.out ?_; intro w6 hbc hb6 hoth hsz; have BC6 := Aside0.mk hbc; have S6 := Aside0.mk (C_move S4.out (fun ad e => hoth _ (HAG.out ad e).2)); have HB6 := Aside0.mk hb6; clear hbc hb6 hoth hsz))
  exact bodyPost_ret (results_cell_row rfl _ _ gc 51 #[.int .i64 L, .slice A3 l0.length c3] (0, 0) _ rfl BC6.out Try.underlying51 rfl size51) rfl ⟨A3, c3, rfl, S6.out, HB6.out⟩
end Go.Proofs.Ytblgcodkbapccaa.CertWalk
