/- PROVED: what provisoref11.Same answers. Conditions: the sizes bound the depth. -/
import Derived.Test.YtblgcodkbapccaaSamesRefS
import Derived.Test.YtblgcodkbapccaaSamesParams
namespace Go.Proofs.Ytblgcodkbapccaa.SamesWalk
open Go.RowKit Go.Proofs.Ytblgcodkbapccaa.PParseSames Go.Proofs.YtblgcodkbapccaaW.PrintWords Go.Proofs.YtblgcodkbapccaaW.PrintLast Go.Proofs.YtblgcodkbapccaaW.PrintMore
attribute [local go_sem] max2_int min2_int max_two min_two max_three min_three max_four min_four
set_option linter.unusedVariables false
set_option linter.unusedSimpArgs false

theorem sameR_at (x y : S76) : sameR x y = (x.f1.toList == y.f1.toList && (x.f2.toList == y.f2.toList && eqf sameP x.f3 y.f3)) := rfl
theorem sameF_at (m n : Nat) (x y : S83) : sameF m n x y = (x.f1.toList == y.f1.toList && (x.f2.toList == y.f2.toList && (eqf sameP x.f3 y.f3 && eqf (sameS m n) x.f4 y.f4))) := rfl

set_option maxHeartbeats 8000000 in
set_option maxRecDepth 100000 in
theorem ref30 (N : Nat) (A0 : Option Addr) (c0 : Nat) (rs : List S76) (A1 : Option Addr) (c1 : Nat) (fs : List S83) (B0 : Option Addr) (d0 : Nat) (rs' : List S76) (B1 : Option Addr) (d1 : Nat) (fs' : List S83) (w : World)
    (hr : Kd.C k76 w A0 rs.length rs) (hf : Kd.C k83 w A1 fs.length fs) (hr' : Kd.C k76 w B0 rs'.length rs') (hf' : Kd.C k83 w B1 fs'.length fs') (hN : ∀ x ∈ fs, ∀ z ∈ x.f4, SizeOf.sizeOf z ≤ N) :
    Calls Try.prog 30 #[.agg #[.slice A0 rs.length c0, .slice A1 fs.length c1], .agg #[.slice B0 rs'.length d0, .slice B1 fs'.length d1]] w fun e w' => e = .returned (.bool (eqf sameR rs rs' && eqf (sameF N N) fs fs')) ∧ Below w.heap.size w w' := by
  have HC := Aside0.mk hr
  have HD := Aside0.mk hr'
  have HC1 := Aside0.mk hf
  have HD1 := Aside0.mk hf'
  have HNN := Aside0.mk hN
  have H62 := Aside0.mk (same62 N N (Nat.le_refl _))
  have hlen0 : rs.length ≤ 9223372036854775807 := hr.2.1
  have hlen1 : fs.length ≤ 9223372036854775807 := hf.2.1
  clear hr hf hr' hf' hN
  obtain ⟨r, hr⟩ : ∃ r, (eqf sameR rs rs' && eqf (sameF N N) fs fs') = r := ⟨_, rfl⟩
  rw [hr]
  have HR := Aside0.mk hr
  clear hr
  by_cases c1 : (rs.length : Int) = (rs'.length : Int)
  · skip
    have hRl : rs.length = rs'.length := by omega
    have HRL := Aside0.mk hRl
    have c1b : ((rs.length : Int) != (rs'.length : Int)) = false := bne_eq_false_iff_eq.mpr c1
    have c1c : ((rs.length : Int) == (rs'.length : Int)) = true := beq_iff_eq.mpr c1
    clear c1 hRl
    by_cases c2 : (fs.length : Int) = (fs'.length : Int)
    · have hFl : fs.length = fs'.length := by omega
      have HFL := Aside0.mk hFl
      have c2b : ((fs.length : Int) != (fs'.length : Int)) = false := bne_eq_false_iff_eq.mpr c2
      have c2c : ((fs.length : Int) == (fs'.length : Int)) = true := beq_iff_eq.mpr c2
      clear c2 hFl
      have HE := Aside0.mk (show (eqf sameR (rs.drop 0) (rs'.drop 0) && eqf (sameF N N) fs fs') = r from HR.out)
      clear HR
      go_enter Try.func30, Try.ntmps30
      go_upto_region 1 with (first | ((with_reducible refine gate_dst (N := 2) rfl ?_); refine box_event ?hg (N := 2) ?hd (cs := #[.slice A0 rs.length c0, .slice A1 fs.length c1]) (t := 38) ?hr ?_; (case hd => rfl); (case hg => rfl); (case hr => first | (go_simp; done) | (go_simp; rfl)); intro gp hgp w1 hbox hb; have BP1 := Aside0.mk hbox; have HS1 := Aside0.mk hb; clear hb hbox hgp) | ((with_reducible refine gate_dst (N := 3) rfl ?_); refine box_event ?hg (N := 3) ?hd (cs := #[.slice B0 rs'.length d0, .slice B1 fs'.length d1]) (t := 38) ?hr ?_; (case hd => rfl); (case hg => rfl); (case hr => first | (go_simp; done) | (go_simp; rfl)); intro gq hgq w2 hbox hb; have BQ2 := Aside0.mk hbox; have BP2 := Aside0.mk (blk_below BP1.out hb); have HB2 := Aside0.mk (below_step HS1.out hb); clear hb hbox hgq))
      (try simp only [Act.put, List.setIfInBounds_toArray, List.set_cons_zero, List.set_cons_succ])
      have hp0 : w2.cell? ⟨gp, 0, none⟩ = some (.slice A0 rs.length c0) := (blk_cell BP2.out 0).trans rfl
      have hp1 : w2.cell? ⟨gp, 1, none⟩ = some (.slice A1 fs.length c1) := (blk_cell BP2.out 1).trans rfl
      have hq0 : w2.cell? ⟨gq, 0, none⟩ = some (.slice B0 rs'.length d0) := (blk_cell BQ2.out 0).trans rfl
      have hq1 : w2.cell? ⟨gq, 1, none⟩ = some (.slice B1 fs'.length d1) := (blk_cell BQ2.out 1).trans rfl
      go_wp2
      clear hp0 hp1 hq0 hq1
      go_loopw [30] (fun i wr => ∃ k : Nat, k ≤ rs.length ∧ i = .int .i64 k ∧ Aside0 ((eqf sameR (rs.drop k) (rs'.drop k) && eqf (sameF N N) fs fs') = r) ∧ Aside0 (wr.heap[gp]? = some (.cells #[.slice A0 rs.length c0, .slice A1 fs.length c1] 38 (0, 0))) ∧ Aside0 (wr.heap[gq]? = some (.cells #[.slice B0 rs'.length d0, .slice B1 fs'.length d1] 38 (0, 0))) ∧ Aside0 (Below w.heap.size w wr)) (fun i _ => rs.length - (intOf i).toNat)
      case atStart => exact ⟨0, Nat.zero_le _, rfl, HE, BP2, BQ2, HB2⟩
      case round =>
        clear HE BP2 BQ2 HB2 BP1 HS1
        obtain ⟨k, hk, rfl, HE, BP, BQ, HB⟩ := hrel
        have hp0 : wr.cell? ⟨gp, 0, none⟩ = some (.slice A0 rs.length c0) := (blk_cell BP.out 0).trans rfl
        have hp1 : wr.cell? ⟨gp, 1, none⟩ = some (.slice A1 fs.length c1) := (blk_cell BP.out 1).trans rfl
        have hq0 : wr.cell? ⟨gq, 0, none⟩ = some (.slice B0 rs'.length d0) := (blk_cell BQ.out 0).trans rfl
        have hq1 : wr.cell? ⟨gq, 1, none⟩ = some (.slice B1 fs'.length d1) := (blk_cell BQ.out 1).trans rfl
        by_cases hlt : k < rs.length
        · skip
          have hlt1 : k < rs'.length := by have := HRL.out; omega
          obtain ⟨ad, cs, e, hK, hx⟩ := elem_at (Kd.C_below HC.out HB.out) k hlt
          obtain ⟨ad', ds, e', hK', hx'⟩ := elem_at (Kd.C_below HD.out HB.out) k hlt1
          have HP := Aside0.mk (show wr.cell? ⟨gp, 0, none⟩ = some (.slice (some ad) rs.length c0) by rw [← e]; exact (blk_cell BP.out 0).trans rfl)
          have HQ := Aside0.mk (show wr.cell? ⟨gq, 0, none⟩ = some (.slice (some ad') rs'.length d0) by rw [← e']; exact (blk_cell BQ.out 0).trans rfl)
          have HN := Aside0.mk (show cs.length = 4 ∧ ds.length = 4 from ⟨k76.K_len hK, k76.K_len hK'⟩)
          have HO := Aside0.mk (And.intro (k76.K_one hK) (k76.K_one hK'))
          have HX := Aside0.mk (show ∀ j v, cs[j]? = some v → wr.cell? ((ad.add (k * 4)).add j) = some v from hx)
          have HX' := Aside0.mk (show ∀ j v, ds[j]? = some v → wr.cell? ((ad'.add (k * 4)).add j) = some v from hx')
          have HE2 := Aside0.mk (show ((sameR rs[k] rs'[k] && eqf (sameR) (rs.drop (k + 1)) (rs'.drop (k + 1))) && eqf (sameF N N) fs fs') = r by rw [← eqf_at (sameR) rs rs' k hlt hlt1]; exact HE.out)
          obtain ⟨x, hxe⟩ : ∃ x, rs[k] = x := ⟨_, rfl⟩
          obtain ⟨y, hye⟩ : ∃ y, rs'[k] = y := ⟨_, rfl⟩
          rw [hxe] at hK HE2
          rw [hye] at hK' HE2
          obtain ⟨A3, c3, hcs, l3, g3⟩ := k76_open hK
          obtain ⟨B3, d3, hds, m3, j3⟩ := k76_open hK'
          have HCS := Aside0.mk (And.intro hcs hds)
          clear hx hx' hxe hye HE hcs hds hK hK'
          have G3 := Aside0.mk g3
          have J3 := Aside0.mk j3
          clear g3 j3 l3 m3
          subst e e'
          go_wp2_with fail
          refine start_ (n := 14) (S := fun w' => Below wr.heap.size wr w') (ds := []) #[false, false, false, false, false, false, false, false, false, false, false, false, false, false] (by kernel_rfl) rfl rfl (below_drew1 (Below.refl wr.heap.size wr)) (fun hHeld => ?_)
          generalize wr.drew = w5 at hHeld ⊢
          refine pure_ (i := 0) (N := some 33) (v := ?_) (a' := ?_) #[true, false, false, false, false, false, false, false, false, false, false, false, false, false] rfl rfl (by kernel_rfl) (fun _ _ _ h => h) (Or.inl ⟨by rfl, ?_⟩) ?_ ?_
          rotate_left
          · intro w'
            go_simp
            with_reducible rfl
          rotate_left
          · simp only [Act.put, List.setIfInBounds_toArray, List.set_cons_zero, List.set_cons_succ, i64_w, i32_w]
            rfl
          refine take_ (i := 1) (N := some 34) (v := ?_) (a' := ?_) #[true, true, false, false, false, false, false, false, false, false, false, false, false, false] rfl rfl (by kernel_rfl) (fun _ _ _ h => h) (Or.inl ⟨by rfl, ?_⟩) hHeld ?_ ?_
          rotate_left
          · intro w' hS
            have hrd := pw_cell_below hS HP.out
            go_simp
            with_reducible rfl
          rotate_left
          · simp only [Act.put, List.setIfInBounds_toArray, List.set_cons_zero, List.set_cons_succ, i64_w, i32_w]
            rfl
          refine pure_ (i := 2) (N := some 35) (v := ?_) (a' := ?_) #[true, true, true, false, false, false, false, false, false, false, false, false, false, false] rfl rfl (by kernel_rfl) (fun _ _ _ h => h) (Or.inl ⟨by rfl, ?_⟩) ?_ ?_
          rotate_left
          · intro w'
            go_simp
            with_reducible rfl
          rotate_left
          · simp only [Act.put, List.setIfInBounds_toArray, List.set_cons_zero, List.set_cons_succ, i64_w, i32_w]
            rfl
          refine pure_ (i := 3) (N := some 36) (v := ?_) (a' := ?_) #[true, true, true, true, false, false, false, false, false, false, false, false, false, false] rfl rfl (by kernel_rfl) (fun _ _ _ h => h) (Or.inl ⟨by rfl, ?_⟩) ?_ ?_
          rotate_left
          · intro w'
            go_simp
            with_reducible rfl
          rotate_left
          · simp only [Act.put, List.setIfInBounds_toArray, List.set_cons_zero, List.set_cons_succ, i64_w, i32_w]
            rfl
          refine take_ (i := 4) (N := some 37) (v := .agg cs.toArray) (a' := ?_) #[true, true, true, true, true, false, false, false, false, false, false, false, false, false] rfl rfl (by kernel_rfl) (fun _ _ _ h => h) (Or.inl ⟨by rfl, fun w' hS => exec_load (P := Try.prog) (ty := 76) (x := .tmp 36) rfl (show (Instr.loadAt 76 (.pointer (some (ad.add (k * 4))))).run Try.prog w' = _ from load_run (row_below hS HX.out) Try.underlying76 rfl size76 HN.out.1)⟩) hHeld ?_ ?_
          rotate_left
          · simp only [Act.put, List.setIfInBounds_toArray, List.set_cons_zero, List.set_cons_succ, i64_w, i32_w]
            rfl
          refine pure_ (i := 5) (N := some 38) (v := ?_) (a' := ?_) #[true, true, true, true, true, true, false, false, false, false, false, false, false, false] rfl rfl (by kernel_rfl) (fun _ _ _ h => h) (Or.inl ⟨by rfl, ?_⟩) ?_ ?_
          rotate_left
          · intro w'
            go_simp
            with_reducible rfl
          rotate_left
          · simp only [Act.put, List.setIfInBounds_toArray, List.set_cons_zero, List.set_cons_succ, i64_w, i32_w]
            rfl
          refine take_ (i := 6) (N := some 39) (v := ?_) (a' := ?_) #[true, true, true, true, true, true, true, false, false, false, false, false, false, false] rfl rfl (by kernel_rfl) (fun _ _ _ h => h) (Or.inl ⟨by rfl, ?_⟩) hHeld ?_ ?_
          rotate_left
          · intro w' hS
            have hrd := pw_cell_below hS HQ.out
            go_simp
            with_reducible rfl
          rotate_left
          · simp only [Act.put, List.setIfInBounds_toArray, List.set_cons_zero, List.set_cons_succ, i64_w, i32_w]
            rfl
          refine pure_ (i := 7) (N := some 40) (v := ?_) (a' := ?_) #[true, true, true, true, true, true, true, true, false, false, false, false, false, false] rfl rfl (by kernel_rfl) (fun _ _ _ h => h) (Or.inl ⟨by rfl, ?_⟩) ?_ ?_
          rotate_left
          · intro w'
            go_simp
            with_reducible rfl
          rotate_left
          · simp only [Act.put, List.setIfInBounds_toArray, List.set_cons_zero, List.set_cons_succ, i64_w, i32_w]
            rfl
          refine pure_ (i := 8) (N := some 41) (v := ?_) (a' := ?_) #[true, true, true, true, true, true, true, true, true, false, false, false, false, false] rfl rfl (by kernel_rfl) (fun _ _ _ h => h) (Or.inl ⟨by rfl, ?_⟩) ?_ ?_
          rotate_left
          · intro w'
            go_simp
            with_reducible rfl
          rotate_left
          · simp only [Act.put, List.setIfInBounds_toArray, List.set_cons_zero, List.set_cons_succ, i64_w, i32_w]
            rfl
          refine take_ (i := 9) (N := some 42) (v := .agg ds.toArray) (a' := ?_) #[true, true, true, true, true, true, true, true, true, true, false, false, false, false] rfl rfl (by kernel_rfl) (fun _ _ _ h => h) (Or.inl ⟨by rfl, fun w' hS => exec_load (P := Try.prog) (ty := 76) (x := .tmp 41) rfl (show (Instr.loadAt 76 (.pointer (some (ad'.add (k * 4))))).run Try.prog w' = _ from load_run (row_below hS HX'.out) Try.underlying76 rfl size76 HN.out.2)⟩) hHeld ?_ ?_
          rotate_left
          · simp only [Act.put, List.setIfInBounds_toArray, List.set_cons_zero, List.set_cons_succ, i64_w, i32_w]
            rfl
          refine join_ 0 #[true, true, true, true, true, true, true, true, true, true, true, true, true, true] (fun s : Nat × Nat => [(6, .pointer (some ⟨s.1, 0, none⟩)), (7, .pointer (some ⟨s.2, 0, none⟩))]) (fun s w' => w'.heap[s.1]? = some (.cells cs.toArray 76 (0, 0)) ∧ w'.heap[s.2]? = some (.cells ds.toArray 76 (0, 0)) ∧ Below wr.heap.size wr w') ?_ (fun hcont0 => ?_)
          rotate_left
          · have hcont := fun gb gc w' F => hcont0 (gb, gc) w' F
            simp only [putAll, Act.put, List.setIfInBounds_toArray, List.set_cons_zero, List.set_cons_succ] at hcont
            clear hcont0
            have hz := zv76
            refine two_ (i := 10) (j := 11) (Ni := some 6) (Nj := some 7) #[true, true, true, true, true, true, true, true, true, true, true, false, false, false] #[true, true, true, true, true, true, true, true, true, true, false, true, false, false] rfl rfl rfl rfl (by kernel_rfl) (by decide) (by decide) (fun K hK => ?_) (fun K hK => ?_)
            · refine box_step (by rfl) (N := 6) rfl (cs := z_76.toArray) (t := 76) ?hr ?_
              case hr => first | (go_simp; done) | (go_simp; rfl)
              intro gb hg1 w6 hbox hb
              have hge1 : wr.heap.size ≤ gb := by rw [hg1]; exact below_size hHeld
              have hS6 := below_step hHeld hb
              refine hK.out _ _ hS6 (fun hHeld6 => ?_)
              clear hK K hHeld6
              refine norm_ (a' := ?_) ?_ ?_
              rotate_left
              · show Act.put _ (some 6) _ = _
                simp only [Act.put, List.setIfInBounds_toArray, List.set_cons_zero, List.set_cons_succ, i64_w, i32_w]
                rfl
              refine one_ (i := 11) (N := some 7) #[true, true, true, true, true, true, true, true, true, true, true, true, false, false] rfl rfl (by kernel_rfl) (by decide) (fun K hK => ?_)
              refine box_step (by rfl) (N := 7) rfl (cs := z_76.toArray) (t := 76) ?hr ?_
              case hr => first | (go_simp; done) | (go_simp; rfl)
              intro gc hg2 w7 hbox2 hb2
              have hge2 : wr.heap.size ≤ gc := by rw [hg2]; exact below_size hS6
              have hne : gb ≠ gc := by rw [hg2]; exact Nat.ne_of_lt (blk_lt hbox)
              have hbox1 := blk_below hbox hb2
              have hS7 := below_step hS6 hb2
              refine hK.out _ _ hS7 (fun hHeld7 => ?_)
              clear hK K hHeld7
              refine norm_ (a' := ?_) ?_ ?_
              rotate_left
              · show Act.put _ (some 7) _ = _
                simp only [Act.put, List.setIfInBounds_toArray, List.set_cons_zero, List.set_cons_succ, i64_w, i32_w]
                rfl
              refine one_ (i := 12) (N := none) #[true, true, true, true, true, true, true, true, true, true, true, true, true, false] rfl rfl (by kernel_rfl) (by decide) (fun K hK => ?_)
              refine store_step (w0 := wr) (base := wr.heap.size) (g := gb) (c' := cs) (by rfl) rfl rfl rfl rfl hbox1 size76 HN.out.1 rfl HO.out.1 hS7 hge1 ?_
              intro w8 hbc8 hS8 hoth8
              refine hK.out _ _ hS8 (fun hHeld8 => ?_)
              clear hK K hHeld8
              have hboxc := (hoth8 gc hne.symm).trans hbox2
              refine one_ (i := 13) (N := none) #[true, true, true, true, true, true, true, true, true, true, true, true, true, true] rfl rfl (by kernel_rfl) (by decide) (fun K hK => ?_)
              refine store_step (w0 := wr) (base := wr.heap.size) (g := gc) (c' := ds) (by rfl) rfl rfl rfl rfl hboxc size76 HN.out.2 rfl HO.out.2 hS8 hge2 ?_
              intro w9 hbc9 hS9 hoth9
              exact hK.out _ _ hS9 (fun _ => hcont gb gc w9 ⟨(hoth9 gb hne).trans hbc8, hbc9, hS9⟩)
            · refine box_step (by rfl) (N := 7) rfl (cs := z_76.toArray) (t := 76) ?hr ?_
              case hr => first | (go_simp; done) | (go_simp; rfl)
              intro gc hg1 w6 hbox hb
              have hge1 : wr.heap.size ≤ gc := by rw [hg1]; exact below_size hHeld
              have hS6 := below_step hHeld hb
              refine hK.out _ _ hS6 (fun hHeld6 => ?_)
              clear hK K hHeld6
              refine norm_ (a' := ?_) ?_ ?_
              rotate_left
              · show Act.put _ (some 7) _ = _
                simp only [Act.put, List.setIfInBounds_toArray, List.set_cons_zero, List.set_cons_succ, i64_w, i32_w]
                rfl
              refine one_ (i := 10) (N := some 6) #[true, true, true, true, true, true, true, true, true, true, true, true, false, false] rfl rfl (by kernel_rfl) (by decide) (fun K hK => ?_)
              refine box_step (by rfl) (N := 6) rfl (cs := z_76.toArray) (t := 76) ?hr ?_
              case hr => first | (go_simp; done) | (go_simp; rfl)
              intro gb hg2 w7 hbox2 hb2
              have hge2 : wr.heap.size ≤ gb := by rw [hg2]; exact below_size hS6
              have hne : gc ≠ gb := by rw [hg2]; exact Nat.ne_of_lt (blk_lt hbox)
              have hbox1 := blk_below hbox hb2
              have hS7 := below_step hS6 hb2
              refine hK.out _ _ hS7 (fun hHeld7 => ?_)
              clear hK K hHeld7
              refine norm_ (a' := ?_) ?_ ?_
              rotate_left
              · show Act.put _ (some 6) _ = _
                simp only [Act.put, List.setIfInBounds_toArray, List.set_cons_zero, List.set_cons_succ, i64_w, i32_w]
                rfl
              refine one_ (i := 12) (N := none) #[true, true, true, true, true, true, true, true, true, true, true, true, true, false] rfl rfl (by kernel_rfl) (by decide) (fun K hK => ?_)
              refine store_step (w0 := wr) (base := wr.heap.size) (g := gb) (c' := cs) (by rfl) rfl rfl rfl rfl hbox2 size76 HN.out.1 rfl HO.out.1 hS7 hge2 ?_
              intro w8 hbc8 hS8 hoth8
              refine hK.out _ _ hS8 (fun hHeld8 => ?_)
              clear hK K hHeld8
              have hboxc := (hoth8 gc hne).trans hbox1
              refine one_ (i := 13) (N := none) #[true, true, true, true, true, true, true, true, true, true, true, true, true, true] rfl rfl (by kernel_rfl) (by decide) (fun K hK => ?_)
              refine store_step (w0 := wr) (base := wr.heap.size) (g := gc) (c' := ds) (by rfl) rfl rfl rfl rfl hboxc size76 HN.out.2 rfl HO.out.2 hS8 hge1 ?_
              intro w9 hbc9 hS9 hoth9
              exact hK.out _ _ hS9 (fun _ => hcont gb gc w9 ⟨(hoth9 gb hne.symm).trans hbc8, hbc9, hS9⟩)
          rintro ⟨gb, gc⟩ w6 ⟨BKa, BCa, HSa⟩
          have BK := Aside0.mk BKa
          have BC := Aside0.mk BCa
          have HS := Aside0.mk HSa
          clear BKa BCa HSa hHeld
          refine norm_ (a' := ?_) ?_ ?_
          rotate_left
          · simp only [putAll, Act.put, List.setIfInBounds_toArray, List.set_cons_zero, List.set_cons_succ]
            rfl
          refine done_ (by kernel_rfl) ?_
          clear HX HX' HN HO HP HQ
          clear hp0 hp1 hq0 hq1
          by_cases b0 : (x.f1.toList == y.f1.toList) = true
          · skip
            have n0 : (x.f1.toList != y.f1.toList) = false := by simp only [bne, b0, Bool.not_true]
            by_cases b1 : (x.f2.toList == y.f2.toList) = true
            · skip
              have n1 : (x.f2.toList != y.f2.toList) = false := by simp only [bne, b1, Bool.not_true]
              by_cases b2 : (eqf sameP x.f3 y.f3) = true
              · skip
                have hspec : sameR x y = true := by rw [sameR_at]; simp [b0, b1, b2]
                have hxs_1 : w6.cell? ⟨gb, 1, none⟩ = some (.string x.f1) := (by rw [blk_cell BK.out 1, HCS.out.1]; rfl)
                have hys_1 : w6.cell? ⟨gc, 1, none⟩ = some (.string y.f1) := (by rw [blk_cell BC.out 1, HCS.out.2]; rfl)
                have hxs_2 : w6.cell? ⟨gb, 2, none⟩ = some (.string x.f2) := (by rw [blk_cell BK.out 2, HCS.out.1]; rfl)
                have hys_2 : w6.cell? ⟨gc, 2, none⟩ = some (.string y.f2) := (by rw [blk_cell BC.out 2, HCS.out.2]; rfl)
                have hxs_3 : w6.cell? ⟨gb, 3, none⟩ = some (.slice A3 x.f3.length c3) := (by rw [blk_cell BK.out 3, HCS.out.1]; rfl)
                have hys_3 : w6.cell? ⟨gc, 3, none⟩ = some (.slice B3 y.f3.length d3) := (by rw [blk_cell BC.out 3, HCS.out.2]; rfl)
                go_wp2_with (first | (go_at_call_of 61 (Value.slice A3 x.f3.length c3); refine Calls.mono (same61 A3 c3 x.f3 B3 d3 y.f3 _ (Kd.C_below G3.out HS.out) (Kd.C_below J3.out HS.out)) ?_; rintro e20 w20 ⟨rfl, hb⟩; have HS20 := Aside0.mk (below_step HS.out hb); have BK20 := Aside0.mk (blk_below BK.out hb); have BC20 := Aside0.mk (blk_below BC.out hb); clear hb; rw [b2]))
                have HE3 := Aside0.mk (show (eqf (sameR) (rs.drop (k + 1)) (rs'.drop (k + 1)) && eqf (sameF N N) fs fs') = r by have h := HE2.out; rw [hspec, Bool.true_and] at h; exact h)
                have HBW := Aside0.mk (below_step HB.out HS20.out)
                have BPW := Aside0.mk (blk_below BP.out HS20.out)
                have BQW := Aside0.mk (blk_below BQ.out HS20.out)
                go_roundw
                case rel => exact ⟨k + 1, by omega, by go_num, HE3, BPW, BQW, HBW⟩
                case measure => simp [intOf]; omega
              · replace b2 : (eqf sameP x.f3 y.f3) = false := by simpa using b2
                have hspec : sameR x y = false := by rw [sameR_at]; simp [b0, b1, b2]
                have hxs_1 : w6.cell? ⟨gb, 1, none⟩ = some (.string x.f1) := (by rw [blk_cell BK.out 1, HCS.out.1]; rfl)
                have hys_1 : w6.cell? ⟨gc, 1, none⟩ = some (.string y.f1) := (by rw [blk_cell BC.out 1, HCS.out.2]; rfl)
                have hxs_2 : w6.cell? ⟨gb, 2, none⟩ = some (.string x.f2) := (by rw [blk_cell BK.out 2, HCS.out.1]; rfl)
                have hys_2 : w6.cell? ⟨gc, 2, none⟩ = some (.string y.f2) := (by rw [blk_cell BC.out 2, HCS.out.2]; rfl)
                have hxs_3 : w6.cell? ⟨gb, 3, none⟩ = some (.slice A3 x.f3.length c3) := (by rw [blk_cell BK.out 3, HCS.out.1]; rfl)
                have hys_3 : w6.cell? ⟨gc, 3, none⟩ = some (.slice B3 y.f3.length d3) := (by rw [blk_cell BC.out 3, HCS.out.2]; rfl)
                go_wp2_with (first | (go_at_call_of 61 (Value.slice A3 x.f3.length c3); refine Calls.mono (same61 A3 c3 x.f3 B3 d3 y.f3 _ (Kd.C_below G3.out HS.out) (Kd.C_below J3.out HS.out)) ?_; rintro e20 w20 ⟨rfl, hb⟩; have HS20 := Aside0.mk (below_step HS.out hb); have BK20 := Aside0.mk (blk_below BK.out hb); have BC20 := Aside0.mk (blk_below BC.out hb); clear hb; rw [b2]))
                have HE3 := Aside0.mk (show false = r by have h := HE2.out; simp only [hspec, Bool.false_and] at h; exact h)
                obtain rfl := HE3.out
                go_ret
                exact ⟨rfl, (below_step HB.out HS20.out)⟩
            · replace b1 : (x.f2.toList == y.f2.toList) = false := by simpa using b1
              have n1 : (x.f2.toList != y.f2.toList) = true := by simp only [bne, b1, Bool.not_false]
              have hspec : sameR x y = false := by rw [sameR_at]; simp [b0, b1]
              have hxs_1 : w6.cell? ⟨gb, 1, none⟩ = some (.string x.f1) := (by rw [blk_cell BK.out 1, HCS.out.1]; rfl)
              have hys_1 : w6.cell? ⟨gc, 1, none⟩ = some (.string y.f1) := (by rw [blk_cell BC.out 1, HCS.out.2]; rfl)
              have hxs_2 : w6.cell? ⟨gb, 2, none⟩ = some (.string x.f2) := (by rw [blk_cell BK.out 2, HCS.out.1]; rfl)
              have hys_2 : w6.cell? ⟨gc, 2, none⟩ = some (.string y.f2) := (by rw [blk_cell BC.out 2, HCS.out.2]; rfl)
              have hxs_3 : w6.cell? ⟨gb, 3, none⟩ = some (.slice A3 x.f3.length c3) := (by rw [blk_cell BK.out 3, HCS.out.1]; rfl)
              have hys_3 : w6.cell? ⟨gc, 3, none⟩ = some (.slice B3 y.f3.length d3) := (by rw [blk_cell BC.out 3, HCS.out.2]; rfl)
              go_wp2_with (fail)
              have HE3 := Aside0.mk (show false = r by have h := HE2.out; simp only [hspec, Bool.false_and] at h; exact h)
              obtain rfl := HE3.out
              go_ret
              exact ⟨rfl, (below_step HB.out HS.out)⟩
          · replace b0 : (x.f1.toList == y.f1.toList) = false := by simpa using b0
            have n0 : (x.f1.toList != y.f1.toList) = true := by simp only [bne, b0, Bool.not_false]
            have hspec : sameR x y = false := by rw [sameR_at]; simp [b0]
            have hxs_1 : w6.cell? ⟨gb, 1, none⟩ = some (.string x.f1) := (by rw [blk_cell BK.out 1, HCS.out.1]; rfl)
            have hys_1 : w6.cell? ⟨gc, 1, none⟩ = some (.string y.f1) := (by rw [blk_cell BC.out 1, HCS.out.2]; rfl)
            have hxs_2 : w6.cell? ⟨gb, 2, none⟩ = some (.string x.f2) := (by rw [blk_cell BK.out 2, HCS.out.1]; rfl)
            have hys_2 : w6.cell? ⟨gc, 2, none⟩ = some (.string y.f2) := (by rw [blk_cell BC.out 2, HCS.out.2]; rfl)
            have hxs_3 : w6.cell? ⟨gb, 3, none⟩ = some (.slice A3 x.f3.length c3) := (by rw [blk_cell BK.out 3, HCS.out.1]; rfl)
            have hys_3 : w6.cell? ⟨gc, 3, none⟩ = some (.slice B3 y.f3.length d3) := (by rw [blk_cell BC.out 3, HCS.out.2]; rfl)
            go_wp2_with (fail)
            have HE3 := Aside0.mk (show false = r by have h := HE2.out; simp only [hspec, Bool.false_and] at h; exact h)
            obtain rfl := HE3.out
            go_ret
            exact ⟨rfl, (below_step HB.out HS.out)⟩
        · have hke : k = rs.length := by omega
          subst hke
          have HE0 := Aside0.mk (show eqf (sameF N N) (fs.drop 0) (fs'.drop 0) = r by have h := HE.out; rw [eqf_end sameR rs rs' HRL.out, Bool.true_and] at h; exact h)
          have BP3 := BP
          have BQ3 := BQ
          have HB3 := HB
          clear HE hlt hk BP BQ HB
          go_wp2
          clear hp0 hp1 hq0 hq1
          go_loopw [67] (fun i wr => ∃ k : Nat, k ≤ fs.length ∧ i = .int .i64 k ∧ Aside0 (eqf (sameF N N) (fs.drop k) (fs'.drop k) = r) ∧ Aside0 (wr.heap[gp]? = some (.cells #[.slice A0 rs.length c0, .slice A1 fs.length c1] 38 (0, 0))) ∧ Aside0 (wr.heap[gq]? = some (.cells #[.slice B0 rs'.length d0, .slice B1 fs'.length d1] 38 (0, 0))) ∧ Aside0 (Below w.heap.size w wr)) (fun i _ => fs.length - (intOf i).toNat)
          case atStart => exact ⟨0, Nat.zero_le _, rfl, HE0, BP3, BQ3, HB3⟩
          case round =>
            clear HE0 BP3 BQ3 HB3
            obtain ⟨k, hk, rfl, HE, BP, BQ, HB⟩ := hrel
            have hp0 : wr.cell? ⟨gp, 0, none⟩ = some (.slice A0 rs.length c0) := (blk_cell BP.out 0).trans rfl
            have hp1 : wr.cell? ⟨gp, 1, none⟩ = some (.slice A1 fs.length c1) := (blk_cell BP.out 1).trans rfl
            have hq0 : wr.cell? ⟨gq, 0, none⟩ = some (.slice B0 rs'.length d0) := (blk_cell BQ.out 0).trans rfl
            have hq1 : wr.cell? ⟨gq, 1, none⟩ = some (.slice B1 fs'.length d1) := (blk_cell BQ.out 1).trans rfl
            by_cases hlt : k < fs.length
            · skip
              have hlt1 : k < fs'.length := by have := HFL.out; omega
              obtain ⟨ad, cs, e, hK, hx⟩ := elem_at (Kd.C_below HC1.out HB.out) k hlt
              obtain ⟨ad', ds, e', hK', hx'⟩ := elem_at (Kd.C_below HD1.out HB.out) k hlt1
              have HP := Aside0.mk (show wr.cell? ⟨gp, 1, none⟩ = some (.slice (some ad) fs.length c1) by rw [← e]; exact (blk_cell BP.out 1).trans rfl)
              have HQ := Aside0.mk (show wr.cell? ⟨gq, 1, none⟩ = some (.slice (some ad') fs'.length d1) by rw [← e']; exact (blk_cell BQ.out 1).trans rfl)
              have HN := Aside0.mk (show cs.length = 7 ∧ ds.length = 7 from ⟨k83.K_len hK, k83.K_len hK'⟩)
              have HO := Aside0.mk (And.intro (k83.K_one hK) (k83.K_one hK'))
              have HX := Aside0.mk (show ∀ j v, cs[j]? = some v → wr.cell? ((ad.add (k * 7)).add j) = some v from hx)
              have HX' := Aside0.mk (show ∀ j v, ds[j]? = some v → wr.cell? ((ad'.add (k * 7)).add j) = some v from hx')
              have HE2 := Aside0.mk (show ((sameF N N fs[k] fs'[k] && eqf (sameF N N) (fs.drop (k + 1)) (fs'.drop (k + 1)))) = r by rw [← eqf_at (sameF N N) fs fs' k hlt hlt1]; exact HE.out)
              have hsz := HNN.out fs[k] (List.getElem_mem hlt)
              obtain ⟨x, hxe⟩ : ∃ x, fs[k] = x := ⟨_, rfl⟩
              obtain ⟨y, hye⟩ : ∃ y, fs'[k] = y := ⟨_, rfl⟩
              rw [hxe] at hK HE2 hsz
              rw [hye] at hK' HE2
              have HSZ := Aside0.mk hsz
              obtain ⟨A3, c3, A4, c4, hcs, l3, g3, l4, g4⟩ := k83_open hK
              obtain ⟨B3, d3, B4, d4, hds, m3, j3, m4, j4⟩ := k83_open hK'
              have HCS := Aside0.mk (And.intro hcs hds)
              clear hx hx' hxe hye HE hcs hds hK hK' hsz
              have G3 := Aside0.mk g3
              have J3 := Aside0.mk j3
              have G4 := Aside0.mk g4
              have J4 := Aside0.mk j4
              clear g3 j3 l3 m3 g4 j4 l4 m4
              subst e e'
              go_wp2_with fail
              refine start_ (n := 14) (S := fun w' => Below wr.heap.size wr w') (ds := []) #[false, false, false, false, false, false, false, false, false, false, false, false, false, false] (by kernel_rfl) rfl rfl (below_drew1 (Below.refl wr.heap.size wr)) (fun hHeld => ?_)
              generalize wr.drew = w5 at hHeld ⊢
              refine pure_ (i := 0) (N := some 70) (v := ?_) (a' := ?_) #[true, false, false, false, false, false, false, false, false, false, false, false, false, false] rfl rfl (by kernel_rfl) (fun _ _ _ h => h) (Or.inl ⟨by rfl, ?_⟩) ?_ ?_
              rotate_left
              · intro w'
                go_simp
                with_reducible rfl
              rotate_left
              · simp only [Act.put, List.setIfInBounds_toArray, List.set_cons_zero, List.set_cons_succ, i64_w, i32_w]
                rfl
              refine take_ (i := 1) (N := some 71) (v := ?_) (a' := ?_) #[true, true, false, false, false, false, false, false, false, false, false, false, false, false] rfl rfl (by kernel_rfl) (fun _ _ _ h => h) (Or.inl ⟨by rfl, ?_⟩) hHeld ?_ ?_
              rotate_left
              · intro w' hS
                have hrd := pw_cell_below hS HP.out
                go_simp
                with_reducible rfl
              rotate_left
              · simp only [Act.put, List.setIfInBounds_toArray, List.set_cons_zero, List.set_cons_succ, i64_w, i32_w]
                rfl
              refine pure_ (i := 2) (N := some 72) (v := ?_) (a' := ?_) #[true, true, true, false, false, false, false, false, false, false, false, false, false, false] rfl rfl (by kernel_rfl) (fun _ _ _ h => h) (Or.inl ⟨by rfl, ?_⟩) ?_ ?_
              rotate_left
              · intro w'
                go_simp
                with_reducible rfl
              rotate_left
              · simp only [Act.put, List.setIfInBounds_toArray, List.set_cons_zero, List.set_cons_succ, i64_w, i32_w]
                rfl
              refine pure_ (i := 3) (N := some 73) (v := ?_) (a' := ?_) #[true, true, true, true, false, false, false, false, false, false, false, false, false, false] rfl rfl (by kernel_rfl) (fun _ _ _ h => h) (Or.inl ⟨by rfl, ?_⟩) ?_ ?_
              rotate_left
              · intro w'
                go_simp
                with_reducible rfl
              rotate_left
              · simp only [Act.put, List.setIfInBounds_toArray, List.set_cons_zero, List.set_cons_succ, i64_w, i32_w]
                rfl
              refine take_ (i := 4) (N := some 74) (v := .agg cs.toArray) (a' := ?_) #[true, true, true, true, true, false, false, false, false, false, false, false, false, false] rfl rfl (by kernel_rfl) (fun _ _ _ h => h) (Or.inl ⟨by rfl, fun w' hS => exec_load (P := Try.prog) (ty := 83) (x := .tmp 73) rfl (show (Instr.loadAt 83 (.pointer (some (ad.add (k * 7))))).run Try.prog w' = _ from load_run (row_below hS HX.out) Try.underlying83 rfl size83 HN.out.1)⟩) hHeld ?_ ?_
              rotate_left
              · simp only [Act.put, List.setIfInBounds_toArray, List.set_cons_zero, List.set_cons_succ, i64_w, i32_w]
                rfl
              refine pure_ (i := 5) (N := some 75) (v := ?_) (a' := ?_) #[true, true, true, true, true, true, false, false, false, false, false, false, false, false] rfl rfl (by kernel_rfl) (fun _ _ _ h => h) (Or.inl ⟨by rfl, ?_⟩) ?_ ?_
              rotate_left
              · intro w'
                go_simp
                with_reducible rfl
              rotate_left
              · simp only [Act.put, List.setIfInBounds_toArray, List.set_cons_zero, List.set_cons_succ, i64_w, i32_w]
                rfl
              refine take_ (i := 6) (N := some 76) (v := ?_) (a' := ?_) #[true, true, true, true, true, true, true, false, false, false, false, false, false, false] rfl rfl (by kernel_rfl) (fun _ _ _ h => h) (Or.inl ⟨by rfl, ?_⟩) hHeld ?_ ?_
              rotate_left
              · intro w' hS
                have hrd := pw_cell_below hS HQ.out
                go_simp
                with_reducible rfl
              rotate_left
              · simp only [Act.put, List.setIfInBounds_toArray, List.set_cons_zero, List.set_cons_succ, i64_w, i32_w]
                rfl
              refine pure_ (i := 7) (N := some 77) (v := ?_) (a' := ?_) #[true, true, true, true, true, true, true, true, false, false, false, false, false, false] rfl rfl (by kernel_rfl) (fun _ _ _ h => h) (Or.inl ⟨by rfl, ?_⟩) ?_ ?_
              rotate_left
              · intro w'
                go_simp
                with_reducible rfl
              rotate_left
              · simp only [Act.put, List.setIfInBounds_toArray, List.set_cons_zero, List.set_cons_succ, i64_w, i32_w]
                rfl
              refine pure_ (i := 8) (N := some 78) (v := ?_) (a' := ?_) #[true, true, true, true, true, true, true, true, true, false, false, false, false, false] rfl rfl (by kernel_rfl) (fun _ _ _ h => h) (Or.inl ⟨by rfl, ?_⟩) ?_ ?_
              rotate_left
              · intro w'
                go_simp
                with_reducible rfl
              rotate_left
              · simp only [Act.put, List.setIfInBounds_toArray, List.set_cons_zero, List.set_cons_succ, i64_w, i32_w]
                rfl
              refine take_ (i := 9) (N := some 79) (v := .agg ds.toArray) (a' := ?_) #[true, true, true, true, true, true, true, true, true, true, false, false, false, false] rfl rfl (by kernel_rfl) (fun _ _ _ h => h) (Or.inl ⟨by rfl, fun w' hS => exec_load (P := Try.prog) (ty := 83) (x := .tmp 78) rfl (show (Instr.loadAt 83 (.pointer (some (ad'.add (k * 7))))).run Try.prog w' = _ from load_run (row_below hS HX'.out) Try.underlying83 rfl size83 HN.out.2)⟩) hHeld ?_ ?_
              rotate_left
              · simp only [Act.put, List.setIfInBounds_toArray, List.set_cons_zero, List.set_cons_succ, i64_w, i32_w]
                rfl
              refine join_ 0 #[true, true, true, true, true, true, true, true, true, true, true, true, true, true] (fun s : Nat × Nat => [(9, .pointer (some ⟨s.1, 0, none⟩)), (10, .pointer (some ⟨s.2, 0, none⟩))]) (fun s w' => w'.heap[s.1]? = some (.cells cs.toArray 83 (0, 0)) ∧ w'.heap[s.2]? = some (.cells ds.toArray 83 (0, 0)) ∧ Below wr.heap.size wr w') ?_ (fun hcont0 => ?_)
              rotate_left
              · have hcont := fun gb gc w' F => hcont0 (gb, gc) w' F
                simp only [putAll, Act.put, List.setIfInBounds_toArray, List.set_cons_zero, List.set_cons_succ] at hcont
                clear hcont0
                have hz := zv83
                refine two_ (i := 10) (j := 11) (Ni := some 9) (Nj := some 10) #[true, true, true, true, true, true, true, true, true, true, true, false, false, false] #[true, true, true, true, true, true, true, true, true, true, false, true, false, false] rfl rfl rfl rfl (by kernel_rfl) (by decide) (by decide) (fun K hK => ?_) (fun K hK => ?_)
                · refine box_step (by rfl) (N := 9) rfl (cs := z_83.toArray) (t := 83) ?hr ?_
                  case hr => first | (go_simp; done) | (go_simp; rfl)
                  intro gb hg1 w6 hbox hb
                  have hge1 : wr.heap.size ≤ gb := by rw [hg1]; exact below_size hHeld
                  have hS6 := below_step hHeld hb
                  refine hK.out _ _ hS6 (fun hHeld6 => ?_)
                  clear hK K hHeld6
                  refine norm_ (a' := ?_) ?_ ?_
                  rotate_left
                  · show Act.put _ (some 9) _ = _
                    simp only [Act.put, List.setIfInBounds_toArray, List.set_cons_zero, List.set_cons_succ, i64_w, i32_w]
                    rfl
                  refine one_ (i := 11) (N := some 10) #[true, true, true, true, true, true, true, true, true, true, true, true, false, false] rfl rfl (by kernel_rfl) (by decide) (fun K hK => ?_)
                  refine box_step (by rfl) (N := 10) rfl (cs := z_83.toArray) (t := 83) ?hr ?_
                  case hr => first | (go_simp; done) | (go_simp; rfl)
                  intro gc hg2 w7 hbox2 hb2
                  have hge2 : wr.heap.size ≤ gc := by rw [hg2]; exact below_size hS6
                  have hne : gb ≠ gc := by rw [hg2]; exact Nat.ne_of_lt (blk_lt hbox)
                  have hbox1 := blk_below hbox hb2
                  have hS7 := below_step hS6 hb2
                  refine hK.out _ _ hS7 (fun hHeld7 => ?_)
                  clear hK K hHeld7
                  refine norm_ (a' := ?_) ?_ ?_
                  rotate_left
                  · show Act.put _ (some 10) _ = _
                    simp only [Act.put, List.setIfInBounds_toArray, List.set_cons_zero, List.set_cons_succ, i64_w, i32_w]
                    rfl
                  refine one_ (i := 12) (N := none) #[true, true, true, true, true, true, true, true, true, true, true, true, true, false] rfl rfl (by kernel_rfl) (by decide) (fun K hK => ?_)
                  refine store_step (w0 := wr) (base := wr.heap.size) (g := gb) (c' := cs) (by rfl) rfl rfl rfl rfl hbox1 size83 HN.out.1 rfl HO.out.1 hS7 hge1 ?_
                  intro w8 hbc8 hS8 hoth8
                  refine hK.out _ _ hS8 (fun hHeld8 => ?_)
                  clear hK K hHeld8
                  have hboxc := (hoth8 gc hne.symm).trans hbox2
                  refine one_ (i := 13) (N := none) #[true, true, true, true, true, true, true, true, true, true, true, true, true, true] rfl rfl (by kernel_rfl) (by decide) (fun K hK => ?_)
                  refine store_step (w0 := wr) (base := wr.heap.size) (g := gc) (c' := ds) (by rfl) rfl rfl rfl rfl hboxc size83 HN.out.2 rfl HO.out.2 hS8 hge2 ?_
                  intro w9 hbc9 hS9 hoth9
                  exact hK.out _ _ hS9 (fun _ => hcont gb gc w9 ⟨(hoth9 gb hne).trans hbc8, hbc9, hS9⟩)
                · refine box_step (by rfl) (N := 10) rfl (cs := z_83.toArray) (t := 83) ?hr ?_
                  case hr => first | (go_simp; done) | (go_simp; rfl)
                  intro gc hg1 w6 hbox hb
                  have hge1 : wr.heap.size ≤ gc := by rw [hg1]; exact below_size hHeld
                  have hS6 := below_step hHeld hb
                  refine hK.out _ _ hS6 (fun hHeld6 => ?_)
                  clear hK K hHeld6
                  refine norm_ (a' := ?_) ?_ ?_
                  rotate_left
                  · show Act.put _ (some 10) _ = _
                    simp only [Act.put, List.setIfInBounds_toArray, List.set_cons_zero, List.set_cons_succ, i64_w, i32_w]
                    rfl
                  refine one_ (i := 10) (N := some 9) #[true, true, true, true, true, true, true, true, true, true, true, true, false, false] rfl rfl (by kernel_rfl) (by decide) (fun K hK => ?_)
                  refine box_step (by rfl) (N := 9) rfl (cs := z_83.toArray) (t := 83) ?hr ?_
                  case hr => first | (go_simp; done) | (go_simp; rfl)
                  intro gb hg2 w7 hbox2 hb2
                  have hge2 : wr.heap.size ≤ gb := by rw [hg2]; exact below_size hS6
                  have hne : gc ≠ gb := by rw [hg2]; exact Nat.ne_of_lt (blk_lt hbox)
                  have hbox1 := blk_below hbox hb2
                  have hS7 := below_step hS6 hb2
                  refine hK.out _ _ hS7 (fun hHeld7 => ?_)
                  clear hK K hHeld7
                  refine norm_ (a' := ?_) ?_ ?_
                  rotate_left
                  · show Act.put _ (some 9) _ = _
                    simp only [Act.put, List.setIfInBounds_toArray, List.set_cons_zero, List.set_cons_succ, i64_w, i32_w]
                    rfl
                  refine one_ (i := 12) (N := none) #[true, true, true, true, true, true, true, true, true, true, true, true, true, false] rfl rfl (by kernel_rfl) (by decide) (fun K hK => ?_)
                  refine store_step (w0 := wr) (base := wr.heap.size) (g := gb) (c' := cs) (by rfl) rfl rfl rfl rfl hbox2 size83 HN.out.1 rfl HO.out.1 hS7 hge2 ?_
                  intro w8 hbc8 hS8 hoth8
                  refine hK.out _ _ hS8 (fun hHeld8 => ?_)
                  clear hK K hHeld8
                  have hboxc := (hoth8 gc hne).trans hbox1
                  refine one_ (i := 13) (N := none) #[true, true, true, true, true, true, true, true, true, true, true, true, true, true] rfl rfl (by kernel_rfl) (by decide) (fun K hK => ?_)
                  refine store_step (w0 := wr) (base := wr.heap.size) (g := gc) (c' := ds) (by rfl) rfl rfl rfl rfl hboxc size83 HN.out.2 rfl HO.out.2 hS8 hge1 ?_
                  intro w9 hbc9 hS9 hoth9
                  exact hK.out _ _ hS9 (fun _ => hcont gb gc w9 ⟨(hoth9 gb hne.symm).trans hbc8, hbc9, hS9⟩)
              rintro ⟨gb, gc⟩ w6 ⟨BKa, BCa, HSa⟩
              have BK := Aside0.mk BKa
              have BC := Aside0.mk BCa
              have HS := Aside0.mk HSa
              clear BKa BCa HSa hHeld
              refine norm_ (a' := ?_) ?_ ?_
              rotate_left
              · simp only [putAll, Act.put, List.setIfInBounds_toArray, List.set_cons_zero, List.set_cons_succ]
                rfl
              refine done_ (by kernel_rfl) ?_
              clear HX HX' HN HO HP HQ
              clear hp0 hp1 hq0 hq1
              by_cases b0 : (x.f1.toList == y.f1.toList) = true
              · skip
                have n0 : (x.f1.toList != y.f1.toList) = false := by simp only [bne, b0, Bool.not_true]
                by_cases b1 : (x.f2.toList == y.f2.toList) = true
                · skip
                  have n1 : (x.f2.toList != y.f2.toList) = false := by simp only [bne, b1, Bool.not_true]
                  by_cases b2 : (eqf sameP x.f3 y.f3) = true
                  · skip
                    by_cases b3 : (eqf (sameS N N) x.f4 y.f4) = true
                    · skip
                      have hspec : sameF N N x y = true := by rw [sameF_at]; simp [b0, b1, b2, b3]
                      have hxs_1 : w6.cell? ⟨gb, 1, none⟩ = some (.string x.f1) := (by rw [blk_cell BK.out 1, HCS.out.1]; rfl)
                      have hys_1 : w6.cell? ⟨gc, 1, none⟩ = some (.string y.f1) := (by rw [blk_cell BC.out 1, HCS.out.2]; rfl)
                      have hxs_2 : w6.cell? ⟨gb, 2, none⟩ = some (.string x.f2) := (by rw [blk_cell BK.out 2, HCS.out.1]; rfl)
                      have hys_2 : w6.cell? ⟨gc, 2, none⟩ = some (.string y.f2) := (by rw [blk_cell BC.out 2, HCS.out.2]; rfl)
                      have hxs_3 : w6.cell? ⟨gb, 3, none⟩ = some (.slice A3 x.f3.length c3) := (by rw [blk_cell BK.out 3, HCS.out.1]; rfl)
                      have hys_3 : w6.cell? ⟨gc, 3, none⟩ = some (.slice B3 y.f3.length d3) := (by rw [blk_cell BC.out 3, HCS.out.2]; rfl)
                      have hxs_4 : w6.cell? ⟨gb, 4, none⟩ = some (.slice A4 x.f4.length c4) := (by rw [blk_cell BK.out 4, HCS.out.1]; rfl)
                      have hys_4 : w6.cell? ⟨gc, 4, none⟩ = some (.slice B4 y.f4.length d4) := (by rw [blk_cell BC.out 4, HCS.out.2]; rfl)
                      go_wp2_with (first | (go_at_call_of 61 (Value.slice A3 x.f3.length c3); refine Calls.mono (same61 A3 c3 x.f3 B3 d3 y.f3 _ (Kd.C_below G3.out HS.out) (Kd.C_below J3.out HS.out)) ?_; rintro e20 w20 ⟨rfl, hb⟩; have HS20 := Aside0.mk (below_step HS.out hb); have BK20 := Aside0.mk (blk_below BK.out hb); have BC20 := Aside0.mk (blk_below BC.out hb); clear hb; rw [b2]; have hx20_4 : w20.cell? ⟨gb, 4, none⟩ = some (.slice A4 x.f4.length c4) := (by rw [blk_cell BK20.out 4, HCS.out.1]; rfl); have hy20_4 : w20.cell? ⟨gc, 4, none⟩ = some (.slice B4 y.f4.length d4) := (by rw [blk_cell BC20.out 4, HCS.out.2]; rfl)) | (go_at_call_of 62 (Value.slice A4 x.f4.length c4); refine Calls.mono (H62.out A4 c4 x.f4 B4 d4 y.f4 _ (Kd.C_below G4.out HS20.out) (Kd.C_below J4.out HS20.out) HSZ.out) ?_; rintro e21 w21 ⟨rfl, hb⟩; have HS21 := Aside0.mk (below_step HS20.out hb); have BK21 := Aside0.mk (blk_below BK20.out hb); have BC21 := Aside0.mk (blk_below BC20.out hb); clear hb; rw [b3]))
                      have HE3 := Aside0.mk (show (eqf (sameF N N) (fs.drop (k + 1)) (fs'.drop (k + 1))) = r by have h := HE2.out; rw [hspec, Bool.true_and] at h; exact h)
                      have HBW := Aside0.mk (below_step HB.out HS21.out)
                      have BPW := Aside0.mk (blk_below BP.out HS21.out)
                      have BQW := Aside0.mk (blk_below BQ.out HS21.out)
                      go_roundw
                      case rel => exact ⟨k + 1, by omega, by go_num, HE3, BPW, BQW, HBW⟩
                      case measure => simp [intOf]; omega
                    · replace b3 : (eqf (sameS N N) x.f4 y.f4) = false := by simpa using b3
                      have hspec : sameF N N x y = false := by rw [sameF_at]; simp [b0, b1, b2, b3]
                      have hxs_1 : w6.cell? ⟨gb, 1, none⟩ = some (.string x.f1) := (by rw [blk_cell BK.out 1, HCS.out.1]; rfl)
                      have hys_1 : w6.cell? ⟨gc, 1, none⟩ = some (.string y.f1) := (by rw [blk_cell BC.out 1, HCS.out.2]; rfl)
                      have hxs_2 : w6.cell? ⟨gb, 2, none⟩ = some (.string x.f2) := (by rw [blk_cell BK.out 2, HCS.out.1]; rfl)
                      have hys_2 : w6.cell? ⟨gc, 2, none⟩ = some (.string y.f2) := (by rw [blk_cell BC.out 2, HCS.out.2]; rfl)
                      have hxs_3 : w6.cell? ⟨gb, 3, none⟩ = some (.slice A3 x.f3.length c3) := (by rw [blk_cell BK.out 3, HCS.out.1]; rfl)
                      have hys_3 : w6.cell? ⟨gc, 3, none⟩ = some (.slice B3 y.f3.length d3) := (by rw [blk_cell BC.out 3, HCS.out.2]; rfl)
                      have hxs_4 : w6.cell? ⟨gb, 4, none⟩ = some (.slice A4 x.f4.length c4) := (by rw [blk_cell BK.out 4, HCS.out.1]; rfl)
                      have hys_4 : w6.cell? ⟨gc, 4, none⟩ = some (.slice B4 y.f4.length d4) := (by rw [blk_cell BC.out 4, HCS.out.2]; rfl)
                      go_wp2_with (first | (go_at_call_of 61 (Value.slice A3 x.f3.length c3); refine Calls.mono (same61 A3 c3 x.f3 B3 d3 y.f3 _ (Kd.C_below G3.out HS.out) (Kd.C_below J3.out HS.out)) ?_; rintro e20 w20 ⟨rfl, hb⟩; have HS20 := Aside0.mk (below_step HS.out hb); have BK20 := Aside0.mk (blk_below BK.out hb); have BC20 := Aside0.mk (blk_below BC.out hb); clear hb; rw [b2]; have hx20_4 : w20.cell? ⟨gb, 4, none⟩ = some (.slice A4 x.f4.length c4) := (by rw [blk_cell BK20.out 4, HCS.out.1]; rfl); have hy20_4 : w20.cell? ⟨gc, 4, none⟩ = some (.slice B4 y.f4.length d4) := (by rw [blk_cell BC20.out 4, HCS.out.2]; rfl)) | (go_at_call_of 62 (Value.slice A4 x.f4.length c4); refine Calls.mono (H62.out A4 c4 x.f4 B4 d4 y.f4 _ (Kd.C_below G4.out HS20.out) (Kd.C_below J4.out HS20.out) HSZ.out) ?_; rintro e21 w21 ⟨rfl, hb⟩; have HS21 := Aside0.mk (below_step HS20.out hb); have BK21 := Aside0.mk (blk_below BK20.out hb); have BC21 := Aside0.mk (blk_below BC20.out hb); clear hb; rw [b3]))
                      have HE3 := Aside0.mk (show false = r by have h := HE2.out; simp only [hspec, Bool.false_and] at h; exact h)
                      obtain rfl := HE3.out
                      go_ret
                      exact ⟨rfl, (below_step HB.out HS21.out)⟩
                  · replace b2 : (eqf sameP x.f3 y.f3) = false := by simpa using b2
                    have hspec : sameF N N x y = false := by rw [sameF_at]; simp [b0, b1, b2]
                    have hxs_1 : w6.cell? ⟨gb, 1, none⟩ = some (.string x.f1) := (by rw [blk_cell BK.out 1, HCS.out.1]; rfl)
                    have hys_1 : w6.cell? ⟨gc, 1, none⟩ = some (.string y.f1) := (by rw [blk_cell BC.out 1, HCS.out.2]; rfl)
                    have hxs_2 : w6.cell? ⟨gb, 2, none⟩ = some (.string x.f2) := (by rw [blk_cell BK.out 2, HCS.out.1]; rfl)
                    have hys_2 : w6.cell? ⟨gc, 2, none⟩ = some (.string y.f2) := (by rw [blk_cell BC.out 2, HCS.out.2]; rfl)
                    have hxs_3 : w6.cell? ⟨gb, 3, none⟩ = some (.slice A3 x.f3.length c3) := (by rw [blk_cell BK.out 3, HCS.out.1]; rfl)
                    have hys_3 : w6.cell? ⟨gc, 3, none⟩ = some (.slice B3 y.f3.length d3) := (by rw [blk_cell BC.out 3, HCS.out.2]; rfl)
                    have hxs_4 : w6.cell? ⟨gb, 4, none⟩ = some (.slice A4 x.f4.length c4) := (by rw [blk_cell BK.out 4, HCS.out.1]; rfl)
                    have hys_4 : w6.cell? ⟨gc, 4, none⟩ = some (.slice B4 y.f4.length d4) := (by rw [blk_cell BC.out 4, HCS.out.2]; rfl)
                    go_wp2_with (first | (go_at_call_of 61 (Value.slice A3 x.f3.length c3); refine Calls.mono (same61 A3 c3 x.f3 B3 d3 y.f3 _ (Kd.C_below G3.out HS.out) (Kd.C_below J3.out HS.out)) ?_; rintro e20 w20 ⟨rfl, hb⟩; have HS20 := Aside0.mk (below_step HS.out hb); have BK20 := Aside0.mk (blk_below BK.out hb); have BC20 := Aside0.mk (blk_below BC.out hb); clear hb; rw [b2]; have hx20_4 : w20.cell? ⟨gb, 4, none⟩ = some (.slice A4 x.f4.length c4) := (by rw [blk_cell BK20.out 4, HCS.out.1]; rfl); have hy20_4 : w20.cell? ⟨gc, 4, none⟩ = some (.slice B4 y.f4.length d4) := (by rw [blk_cell BC20.out 4, HCS.out.2]; rfl)))
                    have HE3 := Aside0.mk (show false = r by have h := HE2.out; simp only [hspec, Bool.false_and] at h; exact h)
                    obtain rfl := HE3.out
                    go_ret
                    exact ⟨rfl, (below_step HB.out HS20.out)⟩
                · replace b1 : (x.f2.toList == y.f2.toList) = false := by simpa using b1
                  have n1 : (x.f2.toList != y.f2.toList) = true := by simp only [bne, b1, Bool.not_false]
                  have hspec : sameF N N x y = false := by rw [sameF_at]; simp [b0, b1]
                  have hxs_1 : w6.cell? ⟨gb, 1, none⟩ = some (.string x.f1) := (by rw [blk_cell BK.out 1, HCS.out.1]; rfl)
                  have hys_1 : w6.cell? ⟨gc, 1, none⟩ = some (.string y.f1) := (by rw [blk_cell BC.out 1, HCS.out.2]; rfl)
                  have hxs_2 : w6.cell? ⟨gb, 2, none⟩ = some (.string x.f2) := (by rw [blk_cell BK.out 2, HCS.out.1]; rfl)
                  have hys_2 : w6.cell? ⟨gc, 2, none⟩ = some (.string y.f2) := (by rw [blk_cell BC.out 2, HCS.out.2]; rfl)
                  have hxs_3 : w6.cell? ⟨gb, 3, none⟩ = some (.slice A3 x.f3.length c3) := (by rw [blk_cell BK.out 3, HCS.out.1]; rfl)
                  have hys_3 : w6.cell? ⟨gc, 3, none⟩ = some (.slice B3 y.f3.length d3) := (by rw [blk_cell BC.out 3, HCS.out.2]; rfl)
                  have hxs_4 : w6.cell? ⟨gb, 4, none⟩ = some (.slice A4 x.f4.length c4) := (by rw [blk_cell BK.out 4, HCS.out.1]; rfl)
                  have hys_4 : w6.cell? ⟨gc, 4, none⟩ = some (.slice B4 y.f4.length d4) := (by rw [blk_cell BC.out 4, HCS.out.2]; rfl)
                  go_wp2_with (fail)
                  have HE3 := Aside0.mk (show false = r by have h := HE2.out; simp only [hspec, Bool.false_and] at h; exact h)
                  obtain rfl := HE3.out
                  go_ret
                  exact ⟨rfl, (below_step HB.out HS.out)⟩
              · replace b0 : (x.f1.toList == y.f1.toList) = false := by simpa using b0
                have n0 : (x.f1.toList != y.f1.toList) = true := by simp only [bne, b0, Bool.not_false]
                have hspec : sameF N N x y = false := by rw [sameF_at]; simp [b0]
                have hxs_1 : w6.cell? ⟨gb, 1, none⟩ = some (.string x.f1) := (by rw [blk_cell BK.out 1, HCS.out.1]; rfl)
                have hys_1 : w6.cell? ⟨gc, 1, none⟩ = some (.string y.f1) := (by rw [blk_cell BC.out 1, HCS.out.2]; rfl)
                have hxs_2 : w6.cell? ⟨gb, 2, none⟩ = some (.string x.f2) := (by rw [blk_cell BK.out 2, HCS.out.1]; rfl)
                have hys_2 : w6.cell? ⟨gc, 2, none⟩ = some (.string y.f2) := (by rw [blk_cell BC.out 2, HCS.out.2]; rfl)
                have hxs_3 : w6.cell? ⟨gb, 3, none⟩ = some (.slice A3 x.f3.length c3) := (by rw [blk_cell BK.out 3, HCS.out.1]; rfl)
                have hys_3 : w6.cell? ⟨gc, 3, none⟩ = some (.slice B3 y.f3.length d3) := (by rw [blk_cell BC.out 3, HCS.out.2]; rfl)
                have hxs_4 : w6.cell? ⟨gb, 4, none⟩ = some (.slice A4 x.f4.length c4) := (by rw [blk_cell BK.out 4, HCS.out.1]; rfl)
                have hys_4 : w6.cell? ⟨gc, 4, none⟩ = some (.slice B4 y.f4.length d4) := (by rw [blk_cell BC.out 4, HCS.out.2]; rfl)
                go_wp2_with (fail)
                have HE3 := Aside0.mk (show false = r by have h := HE2.out; simp only [hspec, Bool.false_and] at h; exact h)
                obtain rfl := HE3.out
                go_ret
                exact ⟨rfl, (below_step HB.out HS.out)⟩
            · have hke : k = fs.length := by omega
              subst hke
              have HE3 := Aside0.mk (show true = r by rw [← HE.out, eqf_end (sameF N N) fs fs' HFL.out])
              obtain rfl := HE3.out
              clear HE hlt hk
              go_wp2
              go_ret
              exact ⟨rfl, HB.out⟩
    · have c2b : ((fs.length : Int) != (fs'.length : Int)) = true := bne_iff_ne.mpr c2
      have c2c : ((fs.length : Int) == (fs'.length : Int)) = false := beq_eq_false_iff_ne.mpr c2
      have HE3 := Aside0.mk (show false = r by rw [← HR.out, eqf_len (sameF N N) fs fs' (by omega), Bool.and_false])
      obtain rfl := HE3.out
      clear HR
      go_enter Try.func30, Try.ntmps30
      go_upto_region 1 with (first | ((with_reducible refine gate_dst (N := 2) rfl ?_); refine box_event ?hg (N := 2) ?hd (cs := #[.slice A0 rs.length c0, .slice A1 fs.length c1]) (t := 38) ?hr ?_; (case hd => rfl); (case hg => rfl); (case hr => first | (go_simp; done) | (go_simp; rfl)); intro gp hgp w1 hbox hb; have BP1 := Aside0.mk hbox; have HS1 := Aside0.mk hb; clear hb hbox hgp) | ((with_reducible refine gate_dst (N := 3) rfl ?_); refine box_event ?hg (N := 3) ?hd (cs := #[.slice B0 rs'.length d0, .slice B1 fs'.length d1]) (t := 38) ?hr ?_; (case hd => rfl); (case hg => rfl); (case hr => first | (go_simp; done) | (go_simp; rfl)); intro gq hgq w2 hbox hb; have BQ2 := Aside0.mk hbox; have BP2 := Aside0.mk (blk_below BP1.out hb); have HB2 := Aside0.mk (below_step HS1.out hb); clear hb hbox hgq))
      (try simp only [Act.put, List.setIfInBounds_toArray, List.set_cons_zero, List.set_cons_succ])
      have hp0 : w2.cell? ⟨gp, 0, none⟩ = some (.slice A0 rs.length c0) := (blk_cell BP2.out 0).trans rfl
      have hp1 : w2.cell? ⟨gp, 1, none⟩ = some (.slice A1 fs.length c1) := (blk_cell BP2.out 1).trans rfl
      have hq0 : w2.cell? ⟨gq, 0, none⟩ = some (.slice B0 rs'.length d0) := (blk_cell BQ2.out 0).trans rfl
      have hq1 : w2.cell? ⟨gq, 1, none⟩ = some (.slice B1 fs'.length d1) := (blk_cell BQ2.out 1).trans rfl
      go_wp2
      go_ret
      exact ⟨rfl, HB2.out⟩
  · have c1b : ((rs.length : Int) != (rs'.length : Int)) = true := bne_iff_ne.mpr c1
    have c1c : ((rs.length : Int) == (rs'.length : Int)) = false := beq_eq_false_iff_ne.mpr c1
    have HE3 := Aside0.mk (show false = r by rw [← HR.out, eqf_len sameR rs rs' (by omega), Bool.false_and])
    obtain rfl := HE3.out
    clear HR c1
    go_enter Try.func30, Try.ntmps30
    go_upto_region 1 with (first | ((with_reducible refine gate_dst (N := 2) rfl ?_); refine box_event ?hg (N := 2) ?hd (cs := #[.slice A0 rs.length c0, .slice A1 fs.length c1]) (t := 38) ?hr ?_; (case hd => rfl); (case hg => rfl); (case hr => first | (go_simp; done) | (go_simp; rfl)); intro gp hgp w1 hbox hb; have BP1 := Aside0.mk hbox; have HS1 := Aside0.mk hb; clear hb hbox hgp) | ((with_reducible refine gate_dst (N := 3) rfl ?_); refine box_event ?hg (N := 3) ?hd (cs := #[.slice B0 rs'.length d0, .slice B1 fs'.length d1]) (t := 38) ?hr ?_; (case hd => rfl); (case hg => rfl); (case hr => first | (go_simp; done) | (go_simp; rfl)); intro gq hgq w2 hbox hb; have BQ2 := Aside0.mk hbox; have BP2 := Aside0.mk (blk_below BP1.out hb); have HB2 := Aside0.mk (below_step HS1.out hb); clear hb hbox hgq))
    (try simp only [Act.put, List.setIfInBounds_toArray, List.set_cons_zero, List.set_cons_succ])
    have hp0 : w2.cell? ⟨gp, 0, none⟩ = some (.slice A0 rs.length c0) := (blk_cell BP2.out 0).trans rfl
    have hp1 : w2.cell? ⟨gp, 1, none⟩ = some (.slice A1 fs.length c1) := (blk_cell BP2.out 1).trans rfl
    have hq0 : w2.cell? ⟨gq, 0, none⟩ = some (.slice B0 rs'.length d0) := (blk_cell BQ2.out 0).trans rfl
    have hq1 : w2.cell? ⟨gq, 1, none⟩ = some (.slice B1 fs'.length d1) := (blk_cell BQ2.out 1).trans rfl
    go_wp2
    go_ret
    exact ⟨rfl, HB2.out⟩
end Go.Proofs.Ytblgcodkbapccaa.SamesWalk
